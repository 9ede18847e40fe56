/- A part of the proof that the law FnBigPut answers true for every input: contracts of functions that it reaches, or its plain law. -/
import Derived.Test.YthbibdpbfgoghaaDoorCFnBigPutx0
import Derived.Test.YthbibdpbfgoghaaDoorCFnBigPutx2
import Derived.Test.YthbibdpbfgoghaaDoorCFnBigPutx3
import Derived.Test.YthbibdpbfgoghaaDoorCFnBigPutx4
section
/-! Rf: keys stand in the order of what they say: lists of bytes, figures. -/
set_option autoImplicit false
set_option linter.unusedSimpArgs false
set_option linter.unusedVariables false
namespace Go.Proofs.YthbibdpbfgoghaaDoor.R
open Go.Rf
abbrev cb := Lib.compareBytes
theorem cb_cons (x y : UInt8) (a b : List UInt8) : cb (x :: a) (y :: b) = if x.toNat < y.toNat then -1 else if y.toNat < x.toNat then 1 else cb a b := by
  show Lib.compareBytes (x :: a) (y :: b) = _
  simp only [Lib.compareBytes, UInt8.lt_iff_toNat_lt]
theorem cb_self : ∀ a : List UInt8, cb a a = 0
  | [] => rfl
  | x :: a => by rw [cb_cons, if_neg (by omega), if_neg (by omega)]; exact cb_self a
theorem cb_app : ∀ {a b : List UInt8} (x y : List UInt8), a.length = b.length → cb (a ++ x) (b ++ y) = if cb a b = 0 then cb x y else cb a b
  | [], [], x, y, _ => by rw [if_pos (cb_self [])]; rfl
  | [], _ :: _, _, _, h => by simp at h
  | _ :: _, [], _, _, h => by simp at h
  | u :: a, v :: b, x, y, h => by
    have ih := cb_app x y (show a.length = b.length by simpa using h)
    rw [List.cons_append, List.cons_append, cb_cons, cb_cons]
    by_cases p : u.toNat < v.toNat
    · rw [if_pos p, if_pos p, if_neg (by omega)]
    · by_cases q : v.toNat < u.toNat
      · rw [if_neg p, if_pos q, if_neg p, if_pos q, if_neg (by omega)]
      · rw [if_neg p, if_neg q, if_neg p, if_neg q]; exact ih
theorem turn_nat (b : UInt8) : (turn b).toNat = 255 - b.toNat := by
  unfold turn
  have h2 := u8_nat (255 - (b.toNat : Int))
  have h3 : b.toNat < 256 := UInt8.toNat_lt b
  omega
theorem cb_flip : ∀ {a b : List UInt8}, (a <+: b → a = b) → (b <+: a → b = a) → cb (flip a) (flip b) = -cb a b
  | [], [], _, _ => rfl
  | [], y :: b, h, _ => by have := h List.nil_prefix; cases this
  | x :: a, [], _, h => by have := h List.nil_prefix; cases this
  | x :: a, y :: b, h1, h2 => by
    have hx : x.toNat < 256 := UInt8.toNat_lt x
    have hy : y.toNat < 256 := UInt8.toNat_lt y
    show cb (turn x :: flip a) (turn y :: flip b) = _
    rw [cb_cons, cb_cons, turn_nat, turn_nat]
    by_cases p : x.toNat < y.toNat
    · rw [if_neg (show ¬ 255 - x.toNat < 255 - y.toNat by omega), if_pos (show 255 - y.toNat < 255 - x.toNat by omega), if_pos p]; rfl
    · by_cases q : y.toNat < x.toNat
      · rw [if_pos (show 255 - x.toNat < 255 - y.toNat by omega), if_neg p, if_pos q]
      · have e : x = y := UInt8.toNat.inj (by omega)
        subst e
        rw [if_neg (by omega), if_neg (by omega), if_neg p, if_neg q]
        refine cb_flip (fun h => ?_) (fun h => ?_)
        · have := h1 (List.cons_prefix_cons.2 ⟨rfl, h⟩); injection this
        · have := h2 (List.cons_prefix_cons.2 ⟨rfl, h⟩); injection this
theorem cb_term : ∀ {a b : List UInt8}, (∀ x ∈ a, x ≠ 0) → (∀ x ∈ b, x ≠ 0) → cb (a ++ [0]) (b ++ [0]) = cb a b
  | [], [], _, _ => rfl
  | [], y :: b, _, h => by
    have hy : y.toNat ≠ 0 := fun e => h y List.mem_cons_self (UInt8.toNat.inj e)
    show cb (0 :: []) (y :: (b ++ [0])) = -1
    rw [cb_cons, if_pos (show (0 : UInt8).toNat < y.toNat by show 0 < y.toNat; omega)]
  | x :: a, [], h, _ => by
    have hx : x.toNat ≠ 0 := fun e => h x List.mem_cons_self (UInt8.toNat.inj e)
    show cb (x :: (a ++ [0])) (0 :: []) = 1
    rw [cb_cons, if_neg (show ¬ x.toNat < (0 : UInt8).toNat by show ¬ x.toNat < 0; omega), if_pos (show (0 : UInt8).toNat < x.toNat by show 0 < x.toNat; omega)]
  | x :: a, y :: b, h1, h2 => by
    rw [List.cons_append, List.cons_append, cb_cons, cb_cons, cb_term (fun z hz => h1 z (List.mem_cons_of_mem _ hz)) (fun z hz => h2 z (List.mem_cons_of_mem _ hz))]
theorem cb_k3 {x y : Int} (h1 : 0 ≤ x ∧ x < 16777216) (h2 : 0 ≤ y ∧ y < 16777216) : cb (k3 x) (k3 y) = zc x y := by
  unfold k3
  rw [cb_cons, cb_cons, cb_cons, cb_self]
  have a1 := u8_nat (x / 65536)
  have a2 := u8_nat (x / 256)
  have a3 := u8_nat x
  have b1 := u8_nat (y / 65536)
  have b2 := u8_nat (y / 256)
  have b3 := u8_nat y
  unfold zc
  repeat' split
  all_goals omega
/-! ### figures -/
theorem gb_nat {b : UInt8} (h : 48 ≤ b.toNat ∧ b.toNat ≤ 57) : (gb b).toNat = b.toNat - 47 := by
  have h2 := u8_nat (IntKind.u8.wrap ((b.toNat : Int) - 48) + 1)
  have h3 : (gb b).toNat = (u8 (IntKind.u8.wrap ((b.toNat : Int) - 48) + 1)).toNat := rfl
  rw [wrap8] at h2 h3
  omega
theorem trimB_cons (x : UInt8) (P : List UInt8) : Lib.trimRightB (x :: P) 48 = if Lib.trimRightB P 48 = [] then (if x = 48 then [] else [x]) else x :: Lib.trimRightB P 48 := by
  unfold Lib.trimRightB
  rw [List.reverse_cons, List.dropWhile_append]
  by_cases h : (P.reverse.dropWhile fun b => b == 48) = []
  · rw [h]
    by_cases hx : x = 48
    · simp [hx]
    · simp [hx]
  · have h' : ¬ (P.reverse.dropWhile fun b => b == 48).isEmpty = true := by simpa using h
    rw [if_neg h', if_neg (by simpa using h)]
    simp
theorem cb_trim : ∀ {P1 P2 : List UInt8}, P1.length = P2.length → (∀ b ∈ P1, 48 ≤ b.toNat ∧ b.toNat ≤ 57) → (∀ b ∈ P2, 48 ≤ b.toNat ∧ b.toNat ≤ 57) →
    cb (dig (Lib.trimRightB P1 48)) (dig (Lib.trimRightB P2 48)) = cb P1 P2
  | [], [], _, _, _ => rfl
  | [], _ :: _, h, _, _ => by simp at h
  | _ :: _, [], h, _, _ => by simp at h
  | x :: P1, y :: P2, h, h1, h2 => by
    have ih := cb_trim (show P1.length = P2.length by simpa using h) (fun b hb => h1 b (List.mem_cons_of_mem _ hb)) (fun b hb => h2 b (List.mem_cons_of_mem _ hb))
    have hx := h1 x List.mem_cons_self
    have hy := h2 y List.mem_cons_self
    have gx := gb_nat hx
    have gy := gb_nat hy
    have n48 : (48 : UInt8).toNat = 48 := rfl
    have z0 : (0 : UInt8).toNat = 0 := rfl
    have d0 : dig [] = [0] := rfl
    have dc : ∀ (u : UInt8) (W : List UInt8), dig (u :: W) = gb u :: dig W := fun u W => rfl
    rw [trimB_cons, trimB_cons, cb_cons]
    have hd : ∀ {P : List UInt8}, (∀ b ∈ P, 48 ≤ b.toNat ∧ b.toNat ≤ 57) → Lib.trimRightB P 48 ≠ [] → ∃ c W, dig (Lib.trimRightB P 48) = c :: W ∧ 0 < c.toNat := fun {P} hP hne => by
      obtain ⟨c, W, e⟩ := List.exists_cons_of_ne_nil hne
      refine ⟨gb c, dig W, by rw [e]; rfl, ?_⟩
      have := gb_nat (hP c (trim_mem (by rw [e]; exact List.mem_cons_self)))
      have := hP c (trim_mem (by rw [e]; exact List.mem_cons_self))
      omega
    by_cases e1 : Lib.trimRightB P1 48 = []
    · by_cases e2 : Lib.trimRightB P2 48 = []
      · rw [if_pos e1, if_pos e2]
        rw [e1, e2, cb_self] at ih
        rw [← ih]
        by_cases c1 : x = 48
        · by_cases c2 : y = 48
          · rw [if_pos c1, if_pos c2, c1, c2, cb_self, if_neg (by omega), if_neg (by omega)]
          · have : y.toNat ≠ 48 := fun e => c2 (UInt8.toNat.inj (by omega))
            rw [if_pos c1, if_neg c2, c1, d0, dc, cb_cons, if_pos (by omega), if_pos (by omega)]
        · have c1' : x.toNat ≠ 48 := fun e => c1 (UInt8.toNat.inj (by omega))
          by_cases c2 : y = 48
          · rw [if_neg c1, if_pos c2, c2, d0, dc, cb_cons, if_neg (by omega), if_pos (by omega), if_neg (by omega), if_pos (by omega)]
          · rw [if_neg c1, if_neg c2, dc, dc, cb_cons, cb_self, gx, gy]
            repeat' split
            all_goals omega
      · rw [if_pos e1, if_neg e2]
        obtain ⟨c, W, ec, hc⟩ := hd (fun b hb => h2 b (List.mem_cons_of_mem _ hb)) e2
        have ih' : cb P1 P2 = -1 := by rw [← ih, e1, d0, ec, cb_cons, if_pos (by omega)]
        by_cases c1 : x = 48
        · rw [if_pos c1, d0, dc, cb_cons, if_pos (by omega), ih', c1]
          repeat' split
          all_goals omega
        · rw [if_neg c1, dc, dc, cb_cons, gx, gy, ih', d0, ec, cb_cons, if_pos (show (0 : UInt8).toNat < c.toNat by omega)]
          repeat' split
          all_goals omega
    · by_cases e2 : Lib.trimRightB P2 48 = []
      · rw [if_neg e1, if_pos e2]
        obtain ⟨c, W, ec, hc⟩ := hd (fun b hb => h1 b (List.mem_cons_of_mem _ hb)) e1
        have ih' : cb P1 P2 = 1 := by rw [← ih, e2, d0, ec, cb_cons, if_neg (by omega), if_pos (by omega)]
        by_cases c2 : y = 48
        · rw [if_pos c2, d0, dc, cb_cons, if_neg (by omega), if_pos (by omega), ih', c2]
          repeat' split
          all_goals omega
        · rw [if_neg c2, dc, dc, cb_cons, gx, gy, ih', d0, ec, cb_cons, if_neg (show ¬ c.toNat < (0 : UInt8).toNat by omega), if_pos (show (0 : UInt8).toNat < c.toNat by omega)]
          repeat' split
          all_goals omega
      · rw [if_neg e1, if_neg e2, dc, dc, cb_cons, gx, gy, ih]
        repeat' split
        all_goals omega
theorem dd_lt (n : Nat) : ∀ (m : Nat), (Lib.decDigits m).length = n → 0 < n ∧ m < 10 ^ n ∧ (0 < m → 10 ^ (n - 1) ≤ m) := by
  induction n with
  | zero =>
    intro m h
    unfold Lib.decDigits at h
    split at h
    · simp at h
    · rw [List.length_append] at h; simp at h
  | succ n ih =>
    intro m h
    unfold Lib.decDigits at h
    by_cases hm : m < 10
    · rw [dif_pos hm] at h
      have : n = 0 := by simpa using h.symm
      subst this
      exact ⟨by omega, by simpa using hm, fun h0 => by simp; omega⟩
    · rw [dif_neg hm, List.length_append, List.length_singleton] at h
      obtain ⟨h1, h2, h3⟩ := ih (m / 10) (by omega)
      have h3 := h3 (by omega)
      have e : 10 ^ (n + 1) = 10 ^ n * 10 := Nat.pow_succ ..
      have e2 : 10 ^ n = 10 ^ (n - 1) * 10 := by rw [← Nat.pow_succ, show (n - 1).succ = n by omega]
      refine ⟨by omega, by omega, fun _ => ?_⟩
      rw [show n + 1 - 1 = n by omega]
      omega
theorem dd_cmp : ∀ (n a b : Nat), (Lib.decDigits a).length = n → (Lib.decDigits b).length = n → cb (Lib.decDigits a) (Lib.decDigits b) = zc (a : Int) (b : Int) := by
  intro n
  induction n with
  | zero => intro a b h _; have := dd_lt 0 a h; omega
  | succ n ih =>
    intro a b ha hb
    have la := dd_lt (n + 1) a ha
    have lb := dd_lt (n + 1) b hb
    unfold Lib.decDigits at ha hb ⊢
    by_cases h1 : a < 10
    · rw [dif_pos h1] at ha ⊢
      have n0 : n = 0 := by simpa using ha.symm
      subst n0
      have h2 : b < 10 := by have := lb.2.1; omega
      rw [dif_pos h2, cb_cons, cb_self, UInt8.toNat_ofNat', UInt8.toNat_ofNat']
      unfold zc
      repeat' split
      all_goals omega
    · rw [dif_neg h1] at ha ⊢
      rw [List.length_append, List.length_singleton] at ha
      by_cases h2 : b < 10
      · rw [dif_pos h2] at hb
        have n0 : n = 0 := by simpa using hb.symm
        subst n0
        have := dd_lt 0 (a / 10) (by omega)
        omega
      · rw [dif_neg h2] at hb ⊢
        rw [List.length_append, List.length_singleton] at hb
        have hi := ih (a / 10) (b / 10) (by omega) (by omega)
        rw [cb_app _ _ (show (Lib.decDigits (a / 10)).length = (Lib.decDigits (b / 10)).length by omega), hi, cb_cons, cb_self, UInt8.toNat_ofNat', UInt8.toNat_ofNat']
        unfold zc
        repeat' split
        all_goals omega
theorem dd_ten (V : Nat) (hV : 0 < V) : ∀ k : Nat, Lib.decDigits (V * 10 ^ k) = Lib.decDigits V ++ List.replicate k 48
  | 0 => by simp
  | k + 1 => by
    have h1 : ¬ V * 10 ^ (k + 1) < 10 := by
      have : 0 < V * 10 ^ k := Nat.mul_pos hV (Nat.pow_pos (by omega))
      rw [Nat.pow_succ, ← Nat.mul_assoc]; omega
    have e : Lib.decDigits (V * 10 ^ (k + 1)) = Lib.decDigits (V * 10 ^ (k + 1) / 10) ++ [UInt8.ofNat (48 + V * 10 ^ (k + 1) % 10)] := by
      conv => lhs; unfold Lib.decDigits
      rw [dif_neg h1]
    rw [e, Nat.pow_succ, ← Nat.mul_assoc, Nat.mul_div_cancel _ (by omega), Nat.mul_mod_left, dd_ten V hV k, List.append_assoc, List.replicate_succ']
    rfl
theorem trim_rep (T : List UInt8) : ∀ k : Nat, Lib.trimRightB (T ++ List.replicate k 48) 48 = Lib.trimRightB T 48
  | 0 => by simp
  | k + 1 => by rw [List.replicate_succ', ← List.append_assoc, trimB_zero, trim_rep T k]
/-- keys of numbers above nought -/
theorem pos_cmp {V1 V2 r1 r2 : Nat} (h1 : 0 < V1) (h2 : 0 < V2) (l1 : (Lib.decDigits V1).length ≤ 30) (l2 : (Lib.decDigits V2).length ≤ 30) (g1 : r1 ≤ 12) (g2 : r2 ≤ 12) :
    cb (u8 (64 + ((Lib.decDigits V1).length : Int) - r1) :: dig (Lib.trimRightB (Lib.decDigits V1) 48)) (u8 (64 + ((Lib.decDigits V2).length : Int) - r2) :: dig (Lib.trimRightB (Lib.decDigits V2) 48)) = zc ((V1 * 10 ^ (12 - r1) : Nat) : Int) ((V2 * 10 ^ (12 - r2) : Nat) : Int) := by
  have a1 := u8_nat (64 + ((Lib.decDigits V1).length : Int) - r1)
  have a2 := u8_nat (64 + ((Lib.decDigits V2).length : Int) - r2)
  have d1 := dd_ten V1 h1 (12 - r1)
  have d2 := dd_ten V2 h2 (12 - r2)
  have p1 : 0 < V1 * 10 ^ (12 - r1) := Nat.mul_pos h1 (Nat.pow_pos (by omega))
  have p2 : 0 < V2 * 10 ^ (12 - r2) := Nat.mul_pos h2 (Nat.pow_pos (by omega))
  have n1 : (Lib.decDigits (V1 * 10 ^ (12 - r1))).length = (Lib.decDigits V1).length + (12 - r1) := by rw [d1, List.length_append, List.length_replicate]
  have n2 : (Lib.decDigits (V2 * 10 ^ (12 - r2))).length = (Lib.decDigits V2).length + (12 - r2) := by rw [d2, List.length_append, List.length_replicate]
  have b1 := dd_lt _ _ n1
  have b2 := dd_lt _ _ n2
  rw [cb_cons]
  by_cases hlt : (Lib.decDigits V1).length + (12 - r1) < (Lib.decDigits V2).length + (12 - r2)
  · have hp : 10 ^ ((Lib.decDigits V1).length + (12 - r1)) ≤ 10 ^ ((Lib.decDigits V2).length + (12 - r2) - 1) := Nat.pow_le_pow_right (by omega) (by omega)
    have := b1.2.1
    have := b2.2.2 p2
    rw [if_pos (by omega)]
    unfold zc
    rw [if_pos (by omega)]
  by_cases hgt : (Lib.decDigits V2).length + (12 - r2) < (Lib.decDigits V1).length + (12 - r1)
  · have hp : 10 ^ ((Lib.decDigits V2).length + (12 - r2)) ≤ 10 ^ ((Lib.decDigits V1).length + (12 - r1) - 1) := Nat.pow_le_pow_right (by omega) (by omega)
    have := b2.2.1
    have := b1.2.2 p1
    rw [if_neg (by omega), if_pos (by omega)]
    unfold zc
    rw [if_neg (by omega), if_pos (by omega)]
  · rw [if_neg (by omega), if_neg (by omega)]
    have hc := cb_trim (P1 := Lib.decDigits (V1 * 10 ^ (12 - r1))) (P2 := Lib.decDigits (V2 * 10 ^ (12 - r2))) (by omega) (dd_range _) (dd_range _)
    rw [dd_cmp _ _ _ n1 (by omega), d1, d2, trim_rep, trim_rep] at hc
    exact hc
end Go.Proofs.YthbibdpbfgoghaaDoor.R
end

section
/-! Rf: the law FnBigPut, with no machine in sight. -/
set_option autoImplicit false
set_option linter.unusedSimpArgs false
set_option linter.unusedVariables false
namespace Go.Proofs.YthbibdpbfgoghaaDoor.R
open Go.Rf
theorem dd_dig (n : Nat) : Dig (Lib.decDigits n) := by
  induction n using Nat.strongRecOn with
  | _ n ih =>
    have one : ∀ d : Nat, d < 10 → Dig [UInt8.ofNat (48 + d)] := fun d hd b hb => by
      rw [List.mem_singleton] at hb
      subst hb
      rw [UInt8.toNat_ofNat']
      omega
    by_cases h : n < 10
    · rw [dd1 h]; exact one n h
    · rw [ddS h]; exact (ih (n / 10) (by omega)).app (one _ (by omega))
theorem dd_ne (n : Nat) : Lib.decDigits n ≠ [] := fun e => by
  have := (dd_lt _ n rfl).1
  rw [e] at this
  simp at this
theorem dd_le {n m : Nat} (hm : 0 < m) (h : n < 10 ^ m) : (Lib.decDigits n).length ≤ m := by
  obtain ⟨h0, _, h2⟩ := dd_lt _ n rfl
  by_cases hn : n = 0
  · subst hn; rw [dd1 (by omega), List.length_singleton]; omega
  · have h2 := h2 (by omega)
    by_cases hl : (Lib.decDigits n).length ≤ m
    · exact hl
    · have : 10 ^ m ≤ 10 ^ ((Lib.decDigits n).length - 1) := Nat.pow_le_pow_right (by omega) (by omega)
      omega
theorem dd_less {n m : Nat} (h : (Lib.decDigits m).length < (Lib.decDigits n).length) : m < n := by
  obtain ⟨a0, a1, _⟩ := dd_lt _ m rfl
  obtain ⟨b0, _, b2⟩ := dd_lt _ n rfl
  by_cases hn : n = 0
  · subst hn
    have : (Lib.decDigits 0).length = 1 := by rw [dd1 (by omega)]; rfl
    omega
  · have b2 := b2 (by omega)
    have : 10 ^ (Lib.decDigits m).length ≤ 10 ^ ((Lib.decDigits n).length - 1) := Nat.pow_le_pow_right (by omega) (by omega)
    omega
theorem p64 : (10000 : Nat) ^ 16 = 10 ^ 64 := by decide
/-- the text of a number -/
def zT (z : Int) : List UInt8 := if z < 0 then 45 :: Lib.decDigits z.natAbs else Lib.decDigits z.natAbs
theorem zT_ne (z : Int) : zT z ≠ [] := by unfold zT; split; simp; exact dd_ne _
theorem beq_same (s : ByteArray) : (s.toList == s.toList) = true := beq_self_eq_true _
theorem zT_full (z : Int) : ((ba (zT z)).toList == (⟨#[]⟩ : ByteArray).toList) = false := by
  rw [Lib.toList_data, Lib.toList_data, beq_eq_false_iff_ne]
  exact zT_ne z
theorem put_text {z : Int} {n : Bool} (hn : n = decide (z < 0)) (hl : (Lib.decDigits z.natAbs).length ≤ 64) {R} (h : R = ((ba (zT z), ()), (((), (), ()), ()))) :
    (if n = true then if (Nat.ble ((⟨#[45]⟩ : ByteArray).size + (textL (digs z.natAbs)).size) 9223372036854775807) = true then some ((((⟨#[45]⟩ : ByteArray) ++ textL (digs z.natAbs)), ()), (((), (), ()), ())) else none else some ((textL (digs z.natAbs), ()), (((), (), ()), ()))) = some R := by
  rw [textL_digs, h]
  show (if n = true then if (Nat.ble ((ba [45]).size + (ba (Lib.decDigits z.natAbs)).size) 9223372036854775807) = true then some (((ba [45] ++ ba (Lib.decDigits z.natAbs)), ()), (((), (), ()), ())) else none else some ((ba (Lib.decDigits z.natAbs), ()), (((), (), ()), ()))) = _
  unfold zT
  subst hn
  by_cases hz : z < 0
  · simp only [decide_eq_true hz, if_true, if_pos hz, Nat.ble_eq_true_of_le (show (ba [45]).size + (ba (Lib.decDigits z.natAbs)).size ≤ 9223372036854775807 by rw [ba_size, ba_size, List.length_singleton]; omega), ba_app, List.singleton_append]
  · simp only [decide_eq_false hz, Bool.false_eq_true, if_false, if_neg hz]
theorem BigPut_im {z : Int} (hz : z.natAbs < 10000 ^ 16) : Ev (fun k => F5 k (decide (z < 0)) (digs z.natAbs)) ((ba (zT z), ()), (((), (), ()), ())) := by
  have hl := dd_le (m := 64) (by omega) (show z.natAbs < 10 ^ 64 by rw [← p64]; exact hz)
  have l1 := digs_len_le hz
  have o := BigOk_ev (decide (z < 0)) (digs z.natAbs) (by omega)
  rw [bOk_digs z hz] at o
  have t := text_ev (digs_spec z.natAbs).1 (show (digs z.natAbs).length ≤ 1000000 by omega)
  refine Ev.step 2 (fun k => F5_eq k _ _) (Ev.bind o ?_)
  simp only [Bool.not_true, Bool.false_eq_true, if_false]
  have e := put_text (z := z) rfl hl rfl
  by_cases hn : z < 0
  · simp only [decide_eq_true hn, if_true] at e ⊢
    refine Ev.bind t ?_
    simp only
    rw [e]
    exact Ev.now _
  · simp only [decide_eq_false hn, Bool.false_eq_true, if_false] at e ⊢
    refine Ev.bind t ?_
    simp only
    rw [e]
    exact Ev.now _
theorem BigPut_sp {z : Int} (hz : z.natAbs < 10000 ^ 16) : Ev (fun k => F6 k (decide (z < 0)) (digs z.natAbs)) ((ba (zT z), ()), (((), (), ()), ())) := by
  have hl := dd_le (m := 64) (by omega) (show z.natAbs < 10 ^ 64 by rw [← p64]; exact hz)
  have l1 := digs_len_le hz
  have o := l1Ok_ev (decide (z < 0)) (digs z.natAbs) (by omega)
  rw [bOk_digs z hz] at o
  have t := l1Figures_ev (digs_spec z.natAbs).1 (show (digs z.natAbs).length ≤ 1000000 by omega)
  have p : Ev (fun k => F16 k (decide (z < 0)) (digs z.natAbs)) ((ba (zT z), ()), (((), (), ()), ())) := by
    refine Ev.step 2 (fun k => F16_eq k _ _) (Ev.bind t ?_)
    have e := put_text (z := z) rfl hl rfl
    simp only
    rw [e]
    exact Ev.now _
  refine Ev.step 2 (fun k => F6_eq k _ _) (Ev.bind o ?_)
  simp only [Bool.not_true, Bool.false_eq_true, if_false]
  exact Ev.bind p (Ev.now _)
theorem BigPut_no {n : Bool} {l : List Int} (hl : l.length ≤ 1048576) (h : bOk n l = false) : Ev (fun k => F5 k n l) (((⟨#[]⟩ : ByteArray), ()), (((), (), ()), ())) ∧ Ev (fun k => F6 k n l) (((⟨#[]⟩ : ByteArray), ()), (((), (), ()), ())) := by
  have o1 := BigOk_ev n l hl
  have o2 := l1Ok_ev n l hl
  rw [h] at o1 o2
  constructor
  · refine Ev.step 2 (fun k => F5_eq k _ _) (Ev.bind o1 ?_)
    simp only [Bool.not_false, if_true]
    exact Ev.now _
  · refine Ev.step 2 (fun k => F6_eq k _ _) (Ev.bind o2 ?_)
    simp only [Bool.not_false, if_true]
    exact Ev.now _
theorem BigOk_sp (n : Bool) (l : List Int) (hl : l.length ≤ 1048576) : Ev (fun k => F8 k n l) ((bOk n l, ()), (((), (), ()), ())) := Ev.step 2 (fun k => F8_eq k _ _) (Ev.bind (l1Ok_ev n l hl) (Ev.now _))
theorem isDigits_ev {L : List UInt8} (h : Dig L) (hne : L ≠ []) (hl : L.length ≤ 1000) : Ev (fun k => F21 k (ba L)) ((true, ()), ((), ())) := by
  refine Ev.step 2 (fun k => F21_eq k _) ?_
  have main : ∀ (m i : Nat), i + m = L.length → Ev (fun k => F21c2 k (ba L) ((ba L).size : Int) (i : Int)) ((true, ()), ((), ())) := by
    intro m
    induction m with
    | zero =>
      intro i hi
      refine Ev.step 1 (fun k => F21c2_eq k _ _ _) ?_
      have e : ((ba L).toList == (⟨#[]⟩ : ByteArray).toList) = false := by
        rw [Lib.toList_data, Lib.toList_data, beq_eq_false_iff_ne]
        exact hne
      simp only [decide_eq_false (show ¬ (i : Int) < ((ba L).size : Int) by rw [ba_size]; omega), Bool.false_eq_true, if_false, e, Bool.not_false]
      exact Ev.now _
    | succ m ih =>
      intro i hi
      refine Ev.step 1 (fun k => F21c2_eq k _ _ _) ?_
      have hlt : i < L.length := by omega
      have hd := h L[i] (List.getElem_mem hlt)
      have hg : (ba L)[i]? = some L[i] := by rw [ba_get, List.getElem?_eq_getElem hlt]
      simp only [decide_eq_true (show (i : Int) < ((ba L).size : Int) by rw [ba_size]; omega), ge0, if_true, Int.toNat_natCast, hg, Option.bind_some,
        decide_eq_false (show ¬ (L[i].toNat : Int) < 48 by omega), decide_eq_false (show ¬ (L[i].toNat : Int) > 57 by omega), Bool.false_eq_true, if_false, wrap_succ (show i < 9223372036854775807 by omega)]
      exact ih (i + 1) (by omega)
  exact main L.length 0 (by omega)
theorem cut_neg {L : List UInt8} : Ev (fun k => F20 k (ba (45 :: L)) (⟨#[45]⟩ : ByteArray)) ((ba L, true, ()), ((), (), ())) := by
  have e0 : ((⟨#[45]⟩ : ByteArray).size : Int) = 1 := rfl
  have e1 : ((ba (45 :: L)).size : Int) = (L.length : Int) + 1 := by rw [ba_size, List.length_cons]; omega
  have hp : Ev (fun k => F61 k (ba (45 :: L)) (⟨#[45]⟩ : ByteArray)) ((true, ()), ((), (), ())) := by
    refine Ev.step 2 (fun k => F61_eq k _ _) ?_
    have e : (((ba (45 :: L)).extract 0 1).toList == (⟨#[45]⟩ : ByteArray).toList) = true := by
      rw [ba_extract, Lib.toList_data, Lib.toList_data]
      simp [ba]
    simp only [e0, e1, decide_eq_true (show (L.length : Int) + 1 ≥ 1 by omega), decide_eq_true (show (1 : Int) ≤ (L.length : Int) + 1 by omega), decide_eq_true (show (0 : Int) ≤ 1 by omega), Bool.and_self, if_true, Int.toNat_one, e]
    exact Ev.now _
  have hc : Ev (fun k => F41 k (ba (45 :: L)) (⟨#[45]⟩ : ByteArray)) ((ba L, true, ()), ((), (), ())) := by
    refine Ev.step 2 (fun k => F41_eq k _ _) (Ev.bind hp ?_)
    have e : (ba (45 :: L)).extract 1 (ba (45 :: L)).size = ba L := by
      rw [ba_extract, ba_size, List.take_length]; rfl
    simp only [Bool.not_true, Bool.false_eq_true, if_false, e0, e1, decide_eq_true (show (1 : Int) ≤ (L.length : Int) + 1 by omega), decide_eq_true (show (0 : Int) ≤ 1 by omega), Bool.and_self, if_true, Int.toNat_one, e]
    exact Ev.now _
  exact Ev.step 2 (fun k => F20_eq k _ _) (Ev.bind hc (Ev.now _))
theorem cut_pos {L : List UInt8} (h : Dig L) (hne : L ≠ []) : Ev (fun k => F20 k (ba L) (⟨#[45]⟩ : ByteArray)) ((ba L, false, ()), ((), (), ())) := by
  have e0 : ((⟨#[45]⟩ : ByteArray).size : Int) = 1 := rfl
  have hl : 0 < L.length := List.length_pos_iff.2 hne
  have e1 : ((ba L).size : Int) = (L.length : Int) := by rw [ba_size]
  have hp : Ev (fun k => F61 k (ba L) (⟨#[45]⟩ : ByteArray)) ((false, ()), ((), (), ())) := by
    refine Ev.step 2 (fun k => F61_eq k _ _) ?_
    have e : (((ba L).extract 0 1).toList == (⟨#[45]⟩ : ByteArray).toList) = false := by
      rw [ba_extract, Lib.toList_data, Lib.toList_data, beq_eq_false_iff_ne]
      cases L with
      | nil => exact absurd rfl hne
      | cons b L =>
        intro he
        have := h b List.mem_cons_self
        have hb : b = 45 := by simpa [ba] using he
        rw [hb] at this
        exact absurd this.1 (by decide)
    simp only [e0, e1, decide_eq_true (show (L.length : Int) ≥ 1 by omega), decide_eq_true (show (1 : Int) ≤ (L.length : Int) by omega), decide_eq_true (show (0 : Int) ≤ 1 by omega), Bool.and_self, if_true, Int.toNat_one, e]
    exact Ev.now _
  have hc : Ev (fun k => F41 k (ba L) (⟨#[45]⟩ : ByteArray)) ((ba L, false, ()), ((), (), ())) := by
    refine Ev.step 2 (fun k => F41_eq k _ _) (Ev.bind hp ?_)
    simp only [Bool.not_false, if_true]
    exact Ev.now _
  exact Ev.step 2 (fun k => F20_eq k _ _) (Ev.bind hc (Ev.now _))
theorem BigGet_im {z : Int} (hz : z.natAbs < 10000 ^ 16) : Ev (fun k => F9 k (ba (zT z))) (((decide (z < 0), digs z.natAbs, ()), true, ()), ((), ())) := by
  have hl := dd_le (m := 64) (by omega) (show z.natAbs < 10 ^ 64 by rw [← p64]; exact hz)
  have hd := dd_dig z.natAbs
  have hne := dd_ne z.natAbs
  have c : Ev (fun k => F20 k (ba (zT z)) (⟨#[45]⟩ : ByteArray)) ((ba (Lib.decDigits z.natAbs), decide (z < 0), ()), ((), (), ())) := by
    unfold zT
    by_cases h : z < 0
    · rw [if_pos h, decide_eq_true h]; exact cut_neg
    · rw [if_neg h, decide_eq_false h]; exact cut_pos hd hne
  have r := read_ev hd (show _ ≤ 400 by omega)
  rw [dv_dd] at r
  have e64 : decide (((ba (Lib.decDigits z.natAbs)).size : Int) > 64) = false := decide_eq_false (by rw [ba_size]; omega)
  refine Ev.step 2 (fun k => F9_eq k _) (Ev.bind c (Ev.bind (isDigits_ev hd hne (by omega)) ?_))
  simp only [Bool.not_true, Bool.false_eq_true, if_false, e64]
  refine Ev.bind r (Ev.bind (bigZ (sg_D z) hz) ?_)
  simp only [Bool.not_true, Bool.false_eq_true, if_false]
  refine Ev.bind (BigPut_im hz) ?_
  simp only [beq_same, Bool.not_true, Bool.false_eq_true, if_false]
  exact Ev.now _
theorem jtBig_ev {z : Int} (hz : z.natAbs < 10000 ^ 16) : Ev (fun k => F11 k (decide (z < 0)) (digs z.natAbs) (decide (z < 0)) (digs z.natAbs)) ((true, ()), (((), (), ()), ((), (), ()), ())) := by
  have l1 := digs_len_le hz
  have j := jtInts_ev (digs z.natAbs) (digs z.natAbs) (by omega)
  rw [decide_eq_true rfl] at j
  refine Ev.step 2 (fun k => F11_eq k _ _ _ _) ?_
  simp only [beq_self_eq_true, if_true]
  exact Ev.bind j (Ev.now _)
theorem drawPut_ev (code : List Int) (w : ∀ y ∈ code, 0 ≤ y ∧ y ≤ 255) : ∃ (n : Bool) (l : List Int), l.length ≤ 100 ∧ Ev (fun k => F4 k code) (((n, l, ()), ()), ((), ())) := by
  obtain ⟨bs, hb, h1⟩ := open_ev code w
  obtain ⟨n, l, q, hl, _, h2⟩ := anyBig_ev hb (p := 0) (by omega)
  exact ⟨n, l, hl, Ev.step 2 (fun k => F4_eq k _) (Ev.bind h1 (Ev.bind h2 (Ev.now _)))⟩
theorem natDec (n : Nat) : decide ((n : Int) < 0) = false := decide_eq_false (by omega)
theorem FnBigPut : PureFnBigPut := by
  intro code more wa wb
  have w1 : ∀ y ∈ code, 0 ≤ y ∧ y ≤ 255 := fun y hy => u8_of (wa.2 y hy)
  have w2 : ∀ y ∈ more, 0 ≤ y ∧ y ≤ 255 := fun y hy => u8_of (wb.2 y hy)
  have fin : Ev (fun k => F3 k code more) ((true, ()), ((), (), ())) := by
    refine Ev.step 2 (fun k => F3_eq k _ _) ?_
    by_cases hlen : code.length > 1048576
    · simp only [decide_eq_true (show (code.length : Int) > 1048576 by omega), if_true]
      exact Ev.now _
    by_cases hlen2 : more.length > 1048576
    · simp only [decide_eq_false (show ¬ (code.length : Int) > 1048576 by omega), decide_eq_true (show (more.length : Int) > 1048576 by omega), Bool.false_eq_true, if_false, if_true]
      exact Ev.now _
    simp only [decide_eq_false (show ¬ (code.length : Int) > 1048576 by omega), decide_eq_false (show ¬ (more.length : Int) > 1048576 by omega), Bool.false_eq_true, if_false]
    obtain ⟨n1, l1, h1, d1⟩ := drawPut_ev code w1
    obtain ⟨n2, l2, h2, d2⟩ := drawPut_ev more w2
    refine Ev.bind d1 (Ev.bind d2 ?_)
    cases o1 : bOk n1 l1 with
    | false =>
      obtain ⟨p1, p2⟩ := BigPut_no (by omega) o1
      have q1 := BigOk_ev n1 l1 (by omega)
      have q2 := BigOk_sp n1 l1 (by omega)
      refine Ev.bind p1 (Ev.bind p2 ?_)
      simp only [beq_same, Bool.not_true, Bool.false_eq_true, if_false, if_true]
      refine Ev.bind p2 ?_
      simp only [beq_same, if_true]
      refine Ev.bind q1 (Ev.bind q2 ?_)
      simp only [beq_self_eq_true]
      exact Ev.now _
    | true =>
      obtain ⟨z, rfl, rfl, hz⟩ := bOk_ex o1
      have l3 := digs_len_le hz
      have q1 := BigOk_ev (decide (z < 0)) (digs z.natAbs) (by omega)
      rw [o1] at q1
      refine Ev.bind (BigPut_im hz) (Ev.bind (BigPut_sp hz) ?_)
      simp only [beq_same, zT_full, Bool.not_true, Bool.false_eq_true, if_false]
      have far := BigPut_im (z := (z.natAbs : Int)) (by rw [Int.natAbs_natCast]; exact hz)
      rw [natDec, Int.natAbs_natCast] at far
      have last : Ev (fun k => (F11 k (decide (z < 0)) (digs z.natAbs) (decide (z < 0)) (digs z.natAbs)).bind fun r17 => if r17.1.1 = true then (F7 k (decide (z < 0)) (digs z.natAbs)).bind fun r18 => some ((r18.1.1, ()), ((), (), ())) else some ((false, ()), ((), (), ()))) ((true, ()), ((), (), ())) := by
        refine Ev.bind (jtBig_ev hz) ?_
        simp only [if_true]
        exact Ev.bind q1 (Ev.now _)
      refine Ev.bind (BigGet_im hz) (Ev.bind far ?_)
      simp only [if_true]
      cases o2 : bOk false l2 with
      | false =>
        refine Ev.bind (BigPut_no (by omega) o2).1 ?_
        simp only [beq_same, Bool.not_true, Bool.false_eq_true, if_false]
        exact last
      | true =>
        obtain ⟨y, hy0, rfl, hy⟩ := bOk_ex o2
        have y0 : ¬ y < 0 := of_decide_eq_false hy0.symm
        have near := BigPut_im hy
        rw [← hy0] at near
        refine Ev.bind near ?_
        simp only [zT_full, Bool.not_false, if_true]
        by_cases hs : ((ba (zT (z.natAbs : Int))).size : Int) > ((ba (zT y)).size : Int)
        · have hlt : y < (z.natAbs : Int) := by
            rw [ba_size, ba_size] at hs
            unfold zT at hs
            rw [if_neg y0, if_neg (by omega), Int.natAbs_natCast] at hs
            have := dd_less (show (Lib.decDigits y.natAbs).length < (Lib.decDigits z.natAbs).length by omega)
            omega
          have c := bigCmpZ (x := (z.natAbs : Int)) (y := y) (by rw [Int.natAbs_natCast]; exact hz) hy
          rw [natDec, Int.natAbs_natCast, ← hy0, show cmpZ (z.natAbs : Int) y = 1 by unfold cmpZ; rw [if_neg (by omega), if_neg (by omega)]] at c
          simp only [decide_eq_true hs, if_true]
          refine Ev.bind c ?_
          simp only [bne_self_eq_false, Bool.false_eq_true, if_false]
          exact last
        · simp only [decide_eq_false hs, Bool.false_eq_true, if_false]
          exact last
  obtain ⟨k, hk⟩ := Ev.get fin
  exact ⟨k, _, hk⟩
end Go.Proofs.YthbibdpbfgoghaaDoor.R
end

section
/-- The row, under a short name, for the claim. -/
theorem Go.Proofs.YthbibdpbfgoghaaDoor.fnBigPut_holds : Go.Proofs.YthbibdpbfgoghaaDoor.Rows.FnBigPutCardSaid := Go.Proofs.YthbibdpbfgoghaaDoor.fnBigPut.card Go.Proofs.YthbibdpbfgoghaaDoor.R.FnBigPut
end
