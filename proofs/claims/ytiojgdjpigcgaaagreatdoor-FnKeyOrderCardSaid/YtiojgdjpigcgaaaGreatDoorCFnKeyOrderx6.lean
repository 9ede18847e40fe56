/- A part of the proof that the law FnKeyOrder answers true for every input: contracts of functions that it reaches, or its plain law. -/
import Derived.Test.YtiojgdjpigcgaaaGreatDoorCFnKeyOrderx0
import Derived.Test.YtiojgdjpigcgaaaGreatDoorCFnKeyOrderx2
import Derived.Test.YtiojgdjpigcgaaaGreatDoorCFnKeyOrderx3
import Derived.Test.YtiojgdjpigcgaaaGreatDoorCFnKeyOrderx4
import Derived.Test.YtiojgdjpigcgaaaGreatDoorCFnKeyOrderx5
section
/-! Rf: how values compare is an order. -/
set_option autoImplicit false
set_option linter.unusedSimpArgs false
set_option linter.unusedVariables false
namespace Go.Proofs.YtiojgdjpigcgaaaGreatDoor.R
open Go.Rf
theorem zc_self (x : Int) : zc x x = 0 := zc_zero.2 rfl
theorem zc_swap (x y : Int) : zc y x = -zc x y := by
  unfold zc
  by_cases a : x < y
  · rw [if_pos a, if_neg (by omega), if_pos (by omega)]; rfl
  · by_cases b : y < x
    · rw [if_pos b, if_neg (by omega), if_pos (by omega)]
    · rw [if_neg b, if_neg (by omega), if_neg a, if_neg (by omega)]; rfl
theorem zc_le {x y : Int} : zc x y ≤ 0 ↔ x ≤ y := by
  unfold zc
  by_cases a : x < y
  · rw [if_pos a]; constructor <;> intro <;> omega
  · by_cases b : y < x
    · rw [if_neg a, if_pos (by omega)]; constructor <;> intro <;> omega
    · rw [if_neg a, if_neg (by omega)]; constructor <;> intro <;> omega
theorem zc_lt {x y : Int} : zc x y < 0 ↔ x < y := by
  unfold zc
  by_cases a : x < y
  · rw [if_pos a]; constructor <;> intro <;> omega
  · by_cases b : y < x
    · rw [if_neg a, if_pos (by omega)]; constructor <;> intro <;> omega
    · rw [if_neg a, if_neg (by omega)]; constructor <;> intro <;> omega
theorem zc_range (x y : Int) : -1 ≤ zc x y ∧ zc x y ≤ 1 := by
  unfold zc
  split
  · omega
  · split <;> omega
theorem zc_cmpZ (x y : Int) : cmpZ x y = zc x y := by
  unfold zc cmpZ
  by_cases a : x < y
  · rw [if_pos a, if_pos a]
  · by_cases b : y < x
    · rw [if_neg a, if_neg (by omega), if_neg a, if_pos (by omega)]
    · rw [if_neg a, if_pos (by omega), if_neg a, if_neg (by omega)]
theorem zc_mul {x y c : Int} (hc : 0 < c) : zc (x * c) (y * c) = zc x y := by
  unfold zc
  by_cases a : x < y
  · rw [if_pos a, if_pos (Int.mul_lt_mul_of_pos_right a hc)]
  · by_cases b : y < x
    · have := Int.mul_lt_mul_of_pos_right b hc
      rw [if_neg a, if_pos (show x > y by omega), if_neg (by omega), if_pos (by omega)]
    · have e : x = y := by omega
      subst e
      rw [if_neg a, if_neg (by omega), if_neg (by omega), if_neg (by omega)]
theorem cb_swap : ∀ a b : List UInt8, Lib.compareBytes b a = -Lib.compareBytes a b
  | [], [] => rfl
  | [], _ :: _ => rfl
  | _ :: _, [] => rfl
  | x :: a, y :: b => by
    have ih := cb_swap a b
    simp only [Lib.compareBytes, UInt8.lt_iff_toNat_lt]
    by_cases p : x.toNat < y.toNat
    · rw [if_neg (show ¬ y.toNat < x.toNat by omega), if_pos p, if_pos p]; rfl
    · by_cases q : y.toNat < x.toNat
      · rw [if_pos q, if_neg p, if_pos q]
      · rw [if_neg q, if_neg p, if_neg p, if_neg q]; exact ih
theorem tri {X Y Z : Nat} {r1 r2 r3 : Int} (h3 : r1 ≤ 0 → r2 ≤ 0 → r3 ≤ 0) (h1 : (if X < Y then (-1 : Int) else if Y < X then 1 else r1) ≤ 0) (h2 : (if Y < Z then (-1 : Int) else if Z < Y then 1 else r2) ≤ 0) : (if X < Z then (-1 : Int) else if Z < X then 1 else r3) ≤ 0 := by
  by_cases e : X < Z
  · rw [if_pos e]; omega
  rw [if_neg e]
  by_cases a : X < Y
  · by_cases c : Y < Z
    · omega
    · rw [if_neg c] at h2
      by_cases d : Z < Y
      · rw [if_pos d] at h2; omega
      · omega
  · rw [if_neg a] at h1
    by_cases b : Y < X
    · rw [if_pos b] at h1; omega
    rw [if_neg b] at h1
    by_cases c : Y < Z
    · omega
    rw [if_neg c] at h2
    by_cases d : Z < Y
    · rw [if_pos d] at h2; omega
    rw [if_neg d] at h2
    rw [if_neg (by omega)]
    exact h3 h1 h2
theorem cb_trans : ∀ a b c : List UInt8, Lib.compareBytes a b ≤ 0 → Lib.compareBytes b c ≤ 0 → Lib.compareBytes a c ≤ 0
  | [], _, [] => fun _ _ => by decide
  | [], _, _ :: _ => fun _ _ => by show (-1 : Int) ≤ 0; decide
  | _ :: _, [], _ => fun h _ => by have h : (1 : Int) ≤ 0 := h; omega
  | _ :: _, _ :: _, [] => fun _ h => by have h : (1 : Int) ≤ 0 := h; omega
  | x :: a, y :: b, z :: c => fun h1 h2 => by
    simp only [Lib.compareBytes, UInt8.lt_iff_toNat_lt] at h1 h2 ⊢
    exact tri (cb_trans a b c) h1 h2
theorem cb_range (a b : List UInt8) : -1 ≤ Lib.compareBytes a b ∧ Lib.compareBytes a b ≤ 1 := by
  obtain ⟨_, _, h⟩ := less_cmp a b
  omega
/-- a value, as one -/
structure Vw where
  (k : Int) (y n : Bool) (l : List Int) (s d m a : Int) (t : ByteArray)
def Vw.ok (v : Vw) : Bool := vOk v.k v.y v.n v.l v.s v.d v.m v.a v.t
def Vw.c (v w : Vw) : Int := vc v.k v.y v.n v.l v.s v.d v.m v.a v.t w.y w.n w.l w.s w.d w.m w.a w.t
def Vw.o (v w : Vw) : Int := vo v.k v.y v.n v.l v.s v.d v.m v.a v.t w.k w.y w.n w.l w.s w.d w.m w.a w.t
/-- where a value lies among those of its kind -/
def Key (v : Vw) (x : Int) : Prop := (v.k = 1 → x = bit v.y) ∧ (v.k = 2 → ∃ (z : Int) (t : Nat), v.n = decide (z < 0) ∧ v.l = digs z.natAbs ∧ v.s = (t : Int) ∧ t ≤ 12 ∧ x = z * 10 ^ (12 - t)) ∧ (v.k = 3 → x = v.d) ∧ (v.k = 4 → x = v.m * 10000000 + v.a ∧ -4000000 ≤ v.a ∧ v.a ≤ 4000000)
theorem key_ex (v : Vw) (h : v.ok = true) : ∃ x, Key v x := by
  unfold Key
  by_cases h1 : v.k = 1
  · exact ⟨bit v.y, fun _ => rfl, fun e => by omega, fun e => by omega, fun e => by omega⟩
  by_cases h2 : v.k = 2
  · obtain ⟨z, t, e1, e2, e3, _, e4⟩ := decOk_ex (vOk_num _ _ _ _ _ _ _ _ _ h h2)
    exact ⟨z * 10 ^ (12 - t), fun e => absurd e h1, fun _ => ⟨z, t, e1, e2, e3, e4, rfl⟩, fun e => by omega, fun e => by omega⟩
  by_cases h3 : v.k = 3
  · exact ⟨v.d, fun e => absurd e h1, fun e => absurd e h2, fun _ => rfl, fun e => by omega⟩
  by_cases h4 : v.k = 4
  · refine ⟨v.m * 10000000 + v.a, fun e => absurd e h1, fun e => absurd e h2, fun e => absurd e h3, fun _ => ⟨rfl, ?_⟩⟩
    have h : vOk v.k v.y v.n v.l v.s v.d v.m v.a v.t = true := h
    unfold vOk bodyOk spanOk within at h
    rw [if_neg h2, if_neg h3, if_pos h4] at h
    simp only [Bool.and_eq_true, decide_eq_true_iff] at h
    exact ⟨h.2.2.2.1, h.2.2.2.2⟩
  · exact ⟨0, fun e => absurd e h1, fun e => absurd e h2, fun e => absurd e h3, fun e => absurd e h4⟩
theorem c_key {v w : Vw} (hk : v.k = w.k) {x y : Int} (hx : Key v x) (hy : Key w y) : v.c w = if 1 ≤ v.k ∧ v.k ≤ 4 then zc x y else tc v.t w.t := by
  obtain ⟨a1, a2, a3, a4⟩ := hx
  obtain ⟨b1, b2, b3, b4⟩ := hy
  unfold Vw.c vc
  by_cases h1 : v.k = 1
  · rw [if_pos h1, if_pos (by omega), a1 h1, b1 (by omega)]
  by_cases h2 : v.k = 2
  · obtain ⟨z1, t1, e1, e2, e3, g1, rfl⟩ := a2 h2
    obtain ⟨z2, t2, e4, e5, e6, g2, rfl⟩ := b2 (by omega)
    rw [if_neg h1, if_pos h2, if_pos (by omega), e1, e2, e3, e4, e5, e6, Int.toNat_natCast, Int.toNat_natCast, dCmp_D, zc_cmpZ, ← zc_mul (pow10_pos (12 - max t1 t2)), Int.mul_assoc, Int.mul_assoc, ← Int.pow_add, ← Int.pow_add, show max t1 t2 - t1 + (12 - max t1 t2) = 12 - t1 by omega, show max t1 t2 - t2 + (12 - max t1 t2) = 12 - t2 by omega]
  by_cases h3 : v.k = 3
  · rw [if_neg h1, if_neg h2, if_pos h3, if_pos (by omega), a3 h3, b3 (by omega)]
  by_cases h4 : v.k = 4
  · obtain ⟨e1, e2, e3⟩ := a4 h4
    obtain ⟨e4, e5, e6⟩ := b4 (by omega)
    rw [if_neg h1, if_neg h2, if_neg h3, if_pos h4, if_pos (show 1 ≤ v.k ∧ v.k ≤ 4 by omega), e1, e4]
    unfold zc
    by_cases hm : v.m = w.m
    · rw [if_pos hm, hm]
      by_cases p : v.a < w.a
      · rw [if_pos p, if_pos (by omega)]
      · by_cases q : v.a > w.a
        · rw [if_neg p, if_pos q, if_neg (by omega), if_pos (by omega)]
        · rw [if_neg p, if_neg q, if_neg (by omega), if_neg (by omega)]
    · rw [if_neg hm]
      by_cases p : v.m < w.m
      · rw [if_pos p, if_pos (by omega)]
      · rw [if_neg p, if_pos (by omega), if_neg (by omega), if_pos (by omega)]
  · rw [if_neg h1, if_neg h2, if_neg h3, if_neg h4, if_neg (by omega)]
theorem o_key {v w : Vw} {x y : Int} (hx : Key v x) (hy : Key w y) : v.o w = if v.k = w.k then (if 1 ≤ v.k ∧ v.k ≤ 4 then zc x y else tc v.t w.t) else zc v.k w.k := by
  unfold Vw.o vo
  by_cases h : v.k = w.k
  · rw [if_pos h, if_pos h]
    exact c_key h hx hy
  · rw [if_neg h, if_neg h]
theorem o_range {v w : Vw} (hv : v.ok = true) (hw : w.ok = true) : -1 ≤ v.o w ∧ v.o w ≤ 1 := by
  obtain ⟨x, hx⟩ := key_ex v hv
  obtain ⟨y, hy⟩ := key_ex w hw
  rw [o_key hx hy]
  split
  · split
    · exact zc_range _ _
    · exact cb_range _ _
  · exact zc_range _ _
theorem o_swap {v w : Vw} (hv : v.ok = true) (hw : w.ok = true) : w.o v = -v.o w := by
  obtain ⟨x, hx⟩ := key_ex v hv
  obtain ⟨y, hy⟩ := key_ex w hw
  rw [o_key hx hy, o_key hy hx]
  by_cases h : v.k = w.k
  · rw [if_pos h, if_pos h.symm, ← h]
    split
    · exact zc_swap _ _
    · exact cb_swap _ _
  · rw [if_neg h, if_neg (Ne.symm h)]
    exact zc_swap _ _
theorem o_self {v : Vw} (hv : v.ok = true) : v.o v = 0 := by
  have := o_swap hv hv
  omega
theorem o_le {v w : Vw} (hv : v.ok = true) (hw : w.ok = true) (h : v.o w ≤ 0) : v.k ≤ w.k := by
  obtain ⟨x, hx⟩ := key_ex v hv
  obtain ⟨y, hy⟩ := key_ex w hw
  rw [o_key hx hy] at h
  by_cases e : v.k = w.k
  · omega
  · rw [if_neg e, zc_le] at h; exact h
theorem o_trans {v w u : Vw} (hv : v.ok = true) (hw : w.ok = true) (hu : u.ok = true) (h1 : v.o w ≤ 0) (h2 : w.o u ≤ 0) : v.o u ≤ 0 := by
  have k1 := o_le hv hw h1
  have k2 := o_le hw hu h2
  obtain ⟨x, hx⟩ := key_ex v hv
  obtain ⟨y, hy⟩ := key_ex w hw
  obtain ⟨z, hz⟩ := key_ex u hu
  rw [o_key hx hy] at h1
  rw [o_key hy hz] at h2
  rw [o_key hx hz]
  by_cases e : v.k = u.k
  · have e1 : v.k = w.k := by omega
    have e2 : w.k = u.k := by omega
    rw [if_pos e1] at h1
    rw [if_pos e2, ← e1] at h2
    rw [if_pos e]
    by_cases r : 1 ≤ v.k ∧ v.k ≤ 4
    · rw [if_pos r, zc_le] at h1 h2 ⊢
      omega
    · rw [if_neg r] at h1 h2 ⊢
      exact cb_trans _ _ _ h1 h2
  · rw [if_neg e, zc_le]
    omega
theorem o_trans' {v w u : Vw} (hv : v.ok = true) (hw : w.ok = true) (hu : u.ok = true) (h1 : 0 ≤ v.o w) (h2 : 0 ≤ w.o u) : 0 ≤ v.o u := by
  have := o_trans hu hw hv (by rw [o_swap hw hu]; omega) (by rw [o_swap hv hw]; omega)
  rw [o_swap hv hu] at this
  omega
theorem o_kind {v w : Vw} (hv : v.ok = true) (hw : w.ok = true) (hk : v.k ≠ w.k) : (v.k < w.k) ↔ v.o w < 0 := by
  obtain ⟨x, hx⟩ := key_ex v hv
  obtain ⟨y, hy⟩ := key_ex w hw
  rw [o_key hx hy, if_neg hk, zc_lt]
/-- the null -/
def nul : Vw := ⟨0, false, false, [], 0, 0, 0, 0, ByteArray.empty⟩
theorem nul_ok : nul.ok = true := by
  unfold Vw.ok nul vOk bareOk bodyOk within noText decZ
  simp
theorem nul_le {v : Vw} (hv : v.ok = true) : nul.o v ≤ 0 := by
  obtain ⟨x, hx⟩ := key_ex nul nul_ok
  obtain ⟨y, hy⟩ := key_ex v hv
  have hk := (vOk_kind hv).1
  have n0 : nul.k = 0 := rfl
  rw [o_key hx hy]
  by_cases h : nul.k = v.k
  · have ht := vOk_noText hv (show v.k ≠ 5 by omega)
    rw [if_pos h, if_neg (by omega)]
    unfold tc
    rw [ht]
    exact Int.le_refl _
  · rw [if_neg h, zc_le, n0]
    exact hk
end Go.Proofs.YtiojgdjpigcgaaaGreatDoor.R
end

section
/-! Rf: keys stand in the order of what they say: lists of bytes, figures. -/
set_option autoImplicit false
set_option linter.unusedSimpArgs false
set_option linter.unusedVariables false
namespace Go.Proofs.YtiojgdjpigcgaaaGreatDoor.R
open Go.Rf
abbrev cb := Lib.compareBytes
theorem cb_cons (x y : UInt8) (a b : List UInt8) : cb (x :: a) (y :: b) = if x.toNat < y.toNat then -1 else if y.toNat < x.toNat then 1 else cb a b := by
  show Lib.compareBytes (x :: a) (y :: b) = _
  simp only [Lib.compareBytes, UInt8.lt_iff_toNat_lt]
theorem cb_self : ∀ a : List UInt8, cb a a = 0
  | [] => rfl
  | x :: a => by rw [cb_cons, if_neg (by omega), if_neg (by omega)]; exact cb_self a
theorem cb_app : ∀ {a b : List UInt8} (x y : List UInt8), a.length = b.length → cb (a ++ x) (b ++ y) = if cb a b = 0 then cb x y else cb a b
  | [], [], x, y, _ => by rw [if_pos (cb_self [])]; rfl
  | [], _ :: _, _, _, h => by simp at h
  | _ :: _, [], _, _, h => by simp at h
  | u :: a, v :: b, x, y, h => by
    have ih := cb_app x y (show a.length = b.length by simpa using h)
    rw [List.cons_append, List.cons_append, cb_cons, cb_cons]
    by_cases p : u.toNat < v.toNat
    · rw [if_pos p, if_pos p, if_neg (by omega)]
    · by_cases q : v.toNat < u.toNat
      · rw [if_neg p, if_pos q, if_neg p, if_pos q, if_neg (by omega)]
      · rw [if_neg p, if_neg q, if_neg p, if_neg q]; exact ih
theorem turn_nat (b : UInt8) : (turn b).toNat = 255 - b.toNat := by
  unfold turn
  have h2 := u8_nat (255 - (b.toNat : Int))
  have h3 : b.toNat < 256 := UInt8.toNat_lt b
  omega
theorem cb_flip : ∀ {a b : List UInt8}, (a <+: b → a = b) → (b <+: a → b = a) → cb (flip a) (flip b) = -cb a b
  | [], [], _, _ => rfl
  | [], y :: b, h, _ => by have := h List.nil_prefix; cases this
  | x :: a, [], _, h => by have := h List.nil_prefix; cases this
  | x :: a, y :: b, h1, h2 => by
    have hx : x.toNat < 256 := UInt8.toNat_lt x
    have hy : y.toNat < 256 := UInt8.toNat_lt y
    show cb (turn x :: flip a) (turn y :: flip b) = _
    rw [cb_cons, cb_cons, turn_nat, turn_nat]
    by_cases p : x.toNat < y.toNat
    · rw [if_neg (show ¬ 255 - x.toNat < 255 - y.toNat by omega), if_pos (show 255 - y.toNat < 255 - x.toNat by omega), if_pos p]; rfl
    · by_cases q : y.toNat < x.toNat
      · rw [if_pos (show 255 - x.toNat < 255 - y.toNat by omega), if_neg p, if_pos q]
      · have e : x = y := UInt8.toNat.inj (by omega)
        subst e
        rw [if_neg (by omega), if_neg (by omega), if_neg p, if_neg q]
        refine cb_flip (fun h => ?_) (fun h => ?_)
        · have := h1 (List.cons_prefix_cons.2 ⟨rfl, h⟩); injection this
        · have := h2 (List.cons_prefix_cons.2 ⟨rfl, h⟩); injection this
theorem cb_term : ∀ {a b : List UInt8}, (∀ x ∈ a, x ≠ 0) → (∀ x ∈ b, x ≠ 0) → cb (a ++ [0]) (b ++ [0]) = cb a b
  | [], [], _, _ => rfl
  | [], y :: b, _, h => by
    have hy : y.toNat ≠ 0 := fun e => h y List.mem_cons_self (UInt8.toNat.inj e)
    show cb (0 :: []) (y :: (b ++ [0])) = -1
    rw [cb_cons, if_pos (show (0 : UInt8).toNat < y.toNat by show 0 < y.toNat; omega)]
  | x :: a, [], h, _ => by
    have hx : x.toNat ≠ 0 := fun e => h x List.mem_cons_self (UInt8.toNat.inj e)
    show cb (x :: (a ++ [0])) (0 :: []) = 1
    rw [cb_cons, if_neg (show ¬ x.toNat < (0 : UInt8).toNat by show ¬ x.toNat < 0; omega), if_pos (show (0 : UInt8).toNat < x.toNat by show 0 < x.toNat; omega)]
  | x :: a, y :: b, h1, h2 => by
    rw [List.cons_append, List.cons_append, cb_cons, cb_cons, cb_term (fun z hz => h1 z (List.mem_cons_of_mem _ hz)) (fun z hz => h2 z (List.mem_cons_of_mem _ hz))]
theorem cb_k3 {x y : Int} (h1 : 0 ≤ x ∧ x < 16777216) (h2 : 0 ≤ y ∧ y < 16777216) : cb (k3 x) (k3 y) = zc x y := by
  unfold k3
  rw [cb_cons, cb_cons, cb_cons, cb_self]
  have a1 := u8_nat (x / 65536)
  have a2 := u8_nat (x / 256)
  have a3 := u8_nat x
  have b1 := u8_nat (y / 65536)
  have b2 := u8_nat (y / 256)
  have b3 := u8_nat y
  unfold zc
  repeat' split
  all_goals omega
/-! ### figures -/
theorem gb_nat {b : UInt8} (h : 48 ≤ b.toNat ∧ b.toNat ≤ 57) : (gb b).toNat = b.toNat - 47 := by
  have h2 := u8_nat (IntKind.u8.wrap ((b.toNat : Int) - 48) + 1)
  have h3 : (gb b).toNat = (u8 (IntKind.u8.wrap ((b.toNat : Int) - 48) + 1)).toNat := rfl
  rw [wrap8] at h2 h3
  omega
theorem trimB_cons (x : UInt8) (P : List UInt8) : Lib.trimRightB (x :: P) 48 = if Lib.trimRightB P 48 = [] then (if x = 48 then [] else [x]) else x :: Lib.trimRightB P 48 := by
  unfold Lib.trimRightB
  rw [List.reverse_cons, List.dropWhile_append]
  by_cases h : (P.reverse.dropWhile fun b => b == 48) = []
  · rw [h]
    by_cases hx : x = 48
    · simp [hx]
    · simp [hx]
  · have h' : ¬ (P.reverse.dropWhile fun b => b == 48).isEmpty = true := by simpa using h
    rw [if_neg h', if_neg (by simpa using h)]
    simp
theorem cb_trim : ∀ {P1 P2 : List UInt8}, P1.length = P2.length → (∀ b ∈ P1, 48 ≤ b.toNat ∧ b.toNat ≤ 57) → (∀ b ∈ P2, 48 ≤ b.toNat ∧ b.toNat ≤ 57) →
    cb (dig (Lib.trimRightB P1 48)) (dig (Lib.trimRightB P2 48)) = cb P1 P2
  | [], [], _, _, _ => rfl
  | [], _ :: _, h, _, _ => by simp at h
  | _ :: _, [], h, _, _ => by simp at h
  | x :: P1, y :: P2, h, h1, h2 => by
    have ih := cb_trim (show P1.length = P2.length by simpa using h) (fun b hb => h1 b (List.mem_cons_of_mem _ hb)) (fun b hb => h2 b (List.mem_cons_of_mem _ hb))
    have hx := h1 x List.mem_cons_self
    have hy := h2 y List.mem_cons_self
    have gx := gb_nat hx
    have gy := gb_nat hy
    have n48 : (48 : UInt8).toNat = 48 := rfl
    have z0 : (0 : UInt8).toNat = 0 := rfl
    have d0 : dig [] = [0] := rfl
    have dc : ∀ (u : UInt8) (W : List UInt8), dig (u :: W) = gb u :: dig W := fun u W => rfl
    rw [trimB_cons, trimB_cons, cb_cons]
    have hd : ∀ {P : List UInt8}, (∀ b ∈ P, 48 ≤ b.toNat ∧ b.toNat ≤ 57) → Lib.trimRightB P 48 ≠ [] → ∃ c W, dig (Lib.trimRightB P 48) = c :: W ∧ 0 < c.toNat := fun {P} hP hne => by
      obtain ⟨c, W, e⟩ := List.exists_cons_of_ne_nil hne
      refine ⟨gb c, dig W, by rw [e]; rfl, ?_⟩
      have := gb_nat (hP c (trim_mem (by rw [e]; exact List.mem_cons_self)))
      have := hP c (trim_mem (by rw [e]; exact List.mem_cons_self))
      omega
    by_cases e1 : Lib.trimRightB P1 48 = []
    · by_cases e2 : Lib.trimRightB P2 48 = []
      · rw [if_pos e1, if_pos e2]
        rw [e1, e2, cb_self] at ih
        rw [← ih]
        by_cases c1 : x = 48
        · by_cases c2 : y = 48
          · rw [if_pos c1, if_pos c2, c1, c2, cb_self, if_neg (by omega), if_neg (by omega)]
          · have : y.toNat ≠ 48 := fun e => c2 (UInt8.toNat.inj (by omega))
            rw [if_pos c1, if_neg c2, c1, d0, dc, cb_cons, if_pos (by omega), if_pos (by omega)]
        · have c1' : x.toNat ≠ 48 := fun e => c1 (UInt8.toNat.inj (by omega))
          by_cases c2 : y = 48
          · rw [if_neg c1, if_pos c2, c2, d0, dc, cb_cons, if_neg (by omega), if_pos (by omega), if_neg (by omega), if_pos (by omega)]
          · rw [if_neg c1, if_neg c2, dc, dc, cb_cons, cb_self, gx, gy]
            repeat' split
            all_goals omega
      · rw [if_pos e1, if_neg e2]
        obtain ⟨c, W, ec, hc⟩ := hd (fun b hb => h2 b (List.mem_cons_of_mem _ hb)) e2
        have ih' : cb P1 P2 = -1 := by rw [← ih, e1, d0, ec, cb_cons, if_pos (by omega)]
        by_cases c1 : x = 48
        · rw [if_pos c1, d0, dc, cb_cons, if_pos (by omega), ih', c1]
          repeat' split
          all_goals omega
        · rw [if_neg c1, dc, dc, cb_cons, gx, gy, ih', d0, ec, cb_cons, if_pos (show (0 : UInt8).toNat < c.toNat by omega)]
          repeat' split
          all_goals omega
    · by_cases e2 : Lib.trimRightB P2 48 = []
      · rw [if_neg e1, if_pos e2]
        obtain ⟨c, W, ec, hc⟩ := hd (fun b hb => h1 b (List.mem_cons_of_mem _ hb)) e1
        have ih' : cb P1 P2 = 1 := by rw [← ih, e2, d0, ec, cb_cons, if_neg (by omega), if_pos (by omega)]
        by_cases c2 : y = 48
        · rw [if_pos c2, d0, dc, cb_cons, if_neg (by omega), if_pos (by omega), ih', c2]
          repeat' split
          all_goals omega
        · rw [if_neg c2, dc, dc, cb_cons, gx, gy, ih', d0, ec, cb_cons, if_neg (show ¬ c.toNat < (0 : UInt8).toNat by omega), if_pos (show (0 : UInt8).toNat < c.toNat by omega)]
          repeat' split
          all_goals omega
      · rw [if_neg e1, if_neg e2, dc, dc, cb_cons, gx, gy, ih]
        repeat' split
        all_goals omega
theorem dd_lt (n : Nat) : ∀ (m : Nat), (Lib.decDigits m).length = n → 0 < n ∧ m < 10 ^ n ∧ (0 < m → 10 ^ (n - 1) ≤ m) := by
  induction n with
  | zero =>
    intro m h
    unfold Lib.decDigits at h
    split at h
    · simp at h
    · rw [List.length_append] at h; simp at h
  | succ n ih =>
    intro m h
    unfold Lib.decDigits at h
    by_cases hm : m < 10
    · rw [dif_pos hm] at h
      have : n = 0 := by simpa using h.symm
      subst this
      exact ⟨by omega, by simpa using hm, fun h0 => by simp; omega⟩
    · rw [dif_neg hm, List.length_append, List.length_singleton] at h
      obtain ⟨h1, h2, h3⟩ := ih (m / 10) (by omega)
      have h3 := h3 (by omega)
      have e : 10 ^ (n + 1) = 10 ^ n * 10 := Nat.pow_succ ..
      have e2 : 10 ^ n = 10 ^ (n - 1) * 10 := by rw [← Nat.pow_succ, show (n - 1).succ = n by omega]
      refine ⟨by omega, by omega, fun _ => ?_⟩
      rw [show n + 1 - 1 = n by omega]
      omega
theorem dd_cmp : ∀ (n a b : Nat), (Lib.decDigits a).length = n → (Lib.decDigits b).length = n → cb (Lib.decDigits a) (Lib.decDigits b) = zc (a : Int) (b : Int) := by
  intro n
  induction n with
  | zero => intro a b h _; have := dd_lt 0 a h; omega
  | succ n ih =>
    intro a b ha hb
    have la := dd_lt (n + 1) a ha
    have lb := dd_lt (n + 1) b hb
    unfold Lib.decDigits at ha hb ⊢
    by_cases h1 : a < 10
    · rw [dif_pos h1] at ha ⊢
      have n0 : n = 0 := by simpa using ha.symm
      subst n0
      have h2 : b < 10 := by have := lb.2.1; omega
      rw [dif_pos h2, cb_cons, cb_self, UInt8.toNat_ofNat', UInt8.toNat_ofNat']
      unfold zc
      repeat' split
      all_goals omega
    · rw [dif_neg h1] at ha ⊢
      rw [List.length_append, List.length_singleton] at ha
      by_cases h2 : b < 10
      · rw [dif_pos h2] at hb
        have n0 : n = 0 := by simpa using hb.symm
        subst n0
        have := dd_lt 0 (a / 10) (by omega)
        omega
      · rw [dif_neg h2] at hb ⊢
        rw [List.length_append, List.length_singleton] at hb
        have hi := ih (a / 10) (b / 10) (by omega) (by omega)
        rw [cb_app _ _ (show (Lib.decDigits (a / 10)).length = (Lib.decDigits (b / 10)).length by omega), hi, cb_cons, cb_self, UInt8.toNat_ofNat', UInt8.toNat_ofNat']
        unfold zc
        repeat' split
        all_goals omega
theorem dd_ten (V : Nat) (hV : 0 < V) : ∀ k : Nat, Lib.decDigits (V * 10 ^ k) = Lib.decDigits V ++ List.replicate k 48
  | 0 => by simp
  | k + 1 => by
    have h1 : ¬ V * 10 ^ (k + 1) < 10 := by
      have : 0 < V * 10 ^ k := Nat.mul_pos hV (Nat.pow_pos (by omega))
      rw [Nat.pow_succ, ← Nat.mul_assoc]; omega
    have e : Lib.decDigits (V * 10 ^ (k + 1)) = Lib.decDigits (V * 10 ^ (k + 1) / 10) ++ [UInt8.ofNat (48 + V * 10 ^ (k + 1) % 10)] := by
      conv => lhs; unfold Lib.decDigits
      rw [dif_neg h1]
    rw [e, Nat.pow_succ, ← Nat.mul_assoc, Nat.mul_div_cancel _ (by omega), Nat.mul_mod_left, dd_ten V hV k, List.append_assoc, List.replicate_succ']
    rfl
theorem trim_rep (T : List UInt8) : ∀ k : Nat, Lib.trimRightB (T ++ List.replicate k 48) 48 = Lib.trimRightB T 48
  | 0 => by simp
  | k + 1 => by rw [List.replicate_succ', ← List.append_assoc, trimB_zero, trim_rep T k]
/-- keys of numbers above nought -/
theorem pos_cmp {V1 V2 r1 r2 : Nat} (h1 : 0 < V1) (h2 : 0 < V2) (l1 : (Lib.decDigits V1).length ≤ 30) (l2 : (Lib.decDigits V2).length ≤ 30) (g1 : r1 ≤ 12) (g2 : r2 ≤ 12) :
    cb (u8 (64 + ((Lib.decDigits V1).length : Int) - r1) :: dig (Lib.trimRightB (Lib.decDigits V1) 48)) (u8 (64 + ((Lib.decDigits V2).length : Int) - r2) :: dig (Lib.trimRightB (Lib.decDigits V2) 48)) = zc ((V1 * 10 ^ (12 - r1) : Nat) : Int) ((V2 * 10 ^ (12 - r2) : Nat) : Int) := by
  have a1 := u8_nat (64 + ((Lib.decDigits V1).length : Int) - r1)
  have a2 := u8_nat (64 + ((Lib.decDigits V2).length : Int) - r2)
  have d1 := dd_ten V1 h1 (12 - r1)
  have d2 := dd_ten V2 h2 (12 - r2)
  have p1 : 0 < V1 * 10 ^ (12 - r1) := Nat.mul_pos h1 (Nat.pow_pos (by omega))
  have p2 : 0 < V2 * 10 ^ (12 - r2) := Nat.mul_pos h2 (Nat.pow_pos (by omega))
  have n1 : (Lib.decDigits (V1 * 10 ^ (12 - r1))).length = (Lib.decDigits V1).length + (12 - r1) := by rw [d1, List.length_append, List.length_replicate]
  have n2 : (Lib.decDigits (V2 * 10 ^ (12 - r2))).length = (Lib.decDigits V2).length + (12 - r2) := by rw [d2, List.length_append, List.length_replicate]
  have b1 := dd_lt _ _ n1
  have b2 := dd_lt _ _ n2
  rw [cb_cons]
  by_cases hlt : (Lib.decDigits V1).length + (12 - r1) < (Lib.decDigits V2).length + (12 - r2)
  · have hp : 10 ^ ((Lib.decDigits V1).length + (12 - r1)) ≤ 10 ^ ((Lib.decDigits V2).length + (12 - r2) - 1) := Nat.pow_le_pow_right (by omega) (by omega)
    have := b1.2.1
    have := b2.2.2 p2
    rw [if_pos (by omega)]
    unfold zc
    rw [if_pos (by omega)]
  by_cases hgt : (Lib.decDigits V2).length + (12 - r2) < (Lib.decDigits V1).length + (12 - r1)
  · have hp : 10 ^ ((Lib.decDigits V2).length + (12 - r2)) ≤ 10 ^ ((Lib.decDigits V1).length + (12 - r1) - 1) := Nat.pow_le_pow_right (by omega) (by omega)
    have := b2.2.1
    have := b1.2.2 p1
    rw [if_neg (by omega), if_pos (by omega)]
    unfold zc
    rw [if_neg (by omega), if_pos (by omega)]
  · rw [if_neg (by omega), if_neg (by omega)]
    have hc := cb_trim (P1 := Lib.decDigits (V1 * 10 ^ (12 - r1))) (P2 := Lib.decDigits (V2 * 10 ^ (12 - r2))) (by omega) (dd_range _) (dd_range _)
    rw [dd_cmp _ _ _ n1 (by omega), d1, d2, trim_rep, trim_rep] at hc
    exact hc
end Go.Proofs.YtiojgdjpigcgaaaGreatDoor.R
end

section
/-! Rf: keys stand in the order of what they say. -/
set_option autoImplicit false
set_option linter.unusedSimpArgs false
set_option linter.unusedVariables false
namespace Go.Proofs.YtiojgdjpigcgaaaGreatDoor.R
open Go.Rf
def NumX (x : Int) (B : List UInt8) : Prop := (x = 0 ∧ B = [128]) ∨ ∃ (V r : Nat), 0 < V ∧ (Lib.decDigits V).length ≤ 30 ∧ r ≤ 12 ∧ x.natAbs = V * 10 ^ (12 - r) ∧ B = nk (decide (x < 0)) (u8 (64 + ((Lib.decDigits V).length : Int) - r)) (Lib.trimRightB (Lib.decDigits V) 48)
structure BodyX (k0 : Int) (y n : Bool) (l : List Int) (s day mo da : Int) (t : ByteArray) (B : List UInt8) : Prop where
  s0 : k0 = 0 → B = []
  s1 : k0 = 1 → B = [u8 (bit y)]
  s2 : k0 = 2 → ∃ (z : Int) (u : Nat), n = decide (z < 0) ∧ l = digs z.natAbs ∧ s = (u : Int) ∧ u ≤ 12 ∧ NumX (z * 10 ^ (12 - u)) B
  s3 : k0 = 3 → B = k3 day
  s4 : k0 = 4 → B = k3 (mo + 120000) ++ k3 (da + 4000000)
  s5 : k0 = 5 → (∀ b ∈ t.data.toList, b ≠ 0) ∧ B = t.data.toList ++ [0]
theorem nk_pos (d : UInt8) (W : List UInt8) : nk false d W = 129 :: (d :: dig W) := rfl
theorem nk_neg (d : UInt8) (W : List UInt8) : nk true d W = 127 :: flip (d :: dig W) := rfl
theorem numX_cmp {x1 x2 : Int} {B1 B2 : List UInt8} (h1 : NumX x1 B1) (h2 : NumX x2 B2) : cb B1 B2 = zc x1 x2 := by
  have q7 : (127 : UInt8).toNat = 127 := rfl
  have q8 : (128 : UInt8).toNat = 128 := rfl
  have q9 : (129 : UInt8).toNat = 129 := rfl
  rcases h1 with ⟨e1, rfl⟩ | ⟨V1, r1, v1, l1, g1, a1, rfl⟩
  · rcases h2 with ⟨e2, rfl⟩ | ⟨V2, r2, v2, l2, g2, a2, rfl⟩
    · rw [cb_self, e1, e2]; rfl
    · have p2 : 0 < V2 * 10 ^ (12 - r2) := Nat.mul_pos v2 (Nat.pow_pos (by omega))
      by_cases n2 : x2 < 0
      · rw [decide_eq_true n2, nk_neg, cb_cons, if_neg (by omega), if_pos (by omega)]
        unfold zc
        rw [if_neg (by omega), if_pos (by omega)]
      · rw [decide_eq_false n2, nk_pos, cb_cons, if_pos (by omega)]
        unfold zc
        rw [if_pos (by omega)]
  · have p1 : 0 < V1 * 10 ^ (12 - r1) := Nat.mul_pos v1 (Nat.pow_pos (by omega))
    rcases h2 with ⟨e2, rfl⟩ | ⟨V2, r2, v2, l2, g2, a2, rfl⟩
    · by_cases n1 : x1 < 0
      · rw [decide_eq_true n1, nk_neg, cb_cons, if_pos (by omega)]
        unfold zc
        rw [if_pos (by omega)]
      · rw [decide_eq_false n1, nk_pos, cb_cons, if_neg (by omega), if_pos (by omega)]
        unfold zc
        rw [if_neg (by omega), if_pos (by omega)]
    · have p2 : 0 < V2 * 10 ^ (12 - r2) := Nat.mul_pos v2 (Nat.pow_pos (by omega))
      have hc := pos_cmp v1 v2 l1 l2 g1 g2
      by_cases n1 : x1 < 0
      · by_cases n2 : x2 < 0
        · rw [decide_eq_true n1, decide_eq_true n2, nk_neg, nk_neg, cb_cons, if_neg (by omega), if_neg (by omega)]
          have fr : ∀ {V V' : Nat} {d d' : UInt8}, d :: dig (Lib.trimRightB (Lib.decDigits V) 48) <+: d' :: dig (Lib.trimRightB (Lib.decDigits V') 48) → d :: dig (Lib.trimRightB (Lib.decDigits V) 48) = d' :: dig (Lib.trimRightB (Lib.decDigits V') 48) := fun {V V' d d'} h => by
            rw [List.cons_prefix_cons] at h
            rw [h.1, dig_free (fun b hb => dd_range V b (trim_mem hb)) (fun b hb => dd_range V' b (trim_mem hb)) h.2]
          rw [cb_flip fr fr, hc, ← zc_swap]
          rw [show x1 = -((V1 * 10 ^ (12 - r1) : Nat) : Int) by omega, show x2 = -((V2 * 10 ^ (12 - r2) : Nat) : Int) by omega]
          unfold zc
          repeat' split
          all_goals omega
        · rw [decide_eq_true n1, decide_eq_false n2, nk_neg, nk_pos, cb_cons, if_pos (by omega)]
          unfold zc
          rw [if_pos (by omega)]
      · by_cases n2 : x2 < 0
        · rw [decide_eq_false n1, decide_eq_true n2, nk_neg, nk_pos, cb_cons, if_neg (by omega), if_pos (by omega)]
          unfold zc
          rw [if_neg (by omega), if_pos (by omega)]
        · rw [decide_eq_false n1, decide_eq_false n2, nk_pos, nk_pos, cb_cons, if_neg (by omega), if_neg (by omega), hc]
          rw [show x1 = ((V1 * 10 ^ (12 - r1) : Nat) : Int) by omega, show x2 = ((V2 * 10 ^ (12 - r2) : Nat) : Int) by omega]
theorem num_exact {z : Int} {t : Nat} (hz : z.natAbs < 10 ^ 30) (ht : t ≤ 12) : ∃ K : List UInt8, NumX (z * 10 ^ (12 - t)) K ∧ K.length ≤ 1000 ∧ Ev (fun k => F86 k (decide (z < 0)) (digs z.natAbs) (t : Int)) ((ints K, ()), (((), (), (), ()), ())) := by
  have l16 := len16 hz
  obtain ⟨i1, i2, i3⟩ := trim_both (n := decide (z < 0)) (l := digs z.natAbs) (s0 := (t : Int)) t z.natAbs ht l16 (fun e => decide_eq_false (by omega))
  obtain ⟨s1, s2, _⟩ := trimN_spec t z.natAbs
  obtain ⟨V, hV⟩ : ∃ V, V = (trimN z.natAbs t).1 := ⟨_, rfl⟩
  obtain ⟨r, hr⟩ : ∃ r, r = (trimN z.natAbs t).2 := ⟨_, rfl⟩
  rw [← hV, ← hr] at i2
  rw [← hV] at i1
  rw [← hV, ← hr] at s2
  rw [← hr] at s1
  have hd : Ev (fun k => F128 k (decide (z < 0)) (digs z.natAbs) (t : Int)) (((decide (z < 0), digs V, (r : Int), ()), ()), (((), (), (), ()), ())) := by
    have dok := DecOk_ev (decide (z < 0)) (digs z.natAbs) (t : Int) (by omega)
    rw [decOk_D hz ht] at dok
    refine Ev.step 2 (fun k => F128_eq k _ _ _) (Ev.bind dok ?_)
    simp only [Bool.not_true, Bool.false_eq_true, if_false]
    exact i2
  have e0 : (((digs V).length : Int) == 0) = decide (V = 0) := len_is0 V
  by_cases h0 : V = 0
  · have e1 : (((digs V).length : Int) == 0) = true := by rw [e0, decide_eq_true h0]
    have hz0 : z = 0 := by rw [h0, Nat.zero_mul] at s2; omega
    refine ⟨[128], .inl ⟨by rw [hz0, Int.zero_mul], rfl⟩, by simp, Ev.step 2 (fun k => F86_eq k _ _ _) (Ev.bind hd ?_)⟩
    simp only [e1, if_true]
    exact Ev.now _
  · obtain ⟨T, hT⟩ : ∃ T, T = Lib.decDigits V := ⟨_, rfl⟩
    have hVlt : V < 10 ^ 30 := by
      have : V ≤ z.natAbs := by
        rw [← s2]
        exact Nat.le_mul_of_pos_right _ (Nat.pow_pos (by omega))
      omega
    have hlong : ¬ long (digs V) > 30 := fun h => (long30 V).1 h hVlt
    rw [long_digs, if_neg h0, ← hT] at hlong
    have tl : T.length ≤ 30 := by omega
    have htx := text_ev (digs_InR V) (show (digs V).length ≤ 1000000 by omega)
    rw [textL_digs, ← hT] at htx
    have wl := trimB_len T
    have hpow : (0 : Int) < 10 ^ (12 - t) := pow10_pos _
    have hA : (z * 10 ^ (12 - t)).natAbs = V * 10 ^ (12 - r) := by
      rw [Int.natAbs_mul, ← s2, show ((10 : Int) ^ (12 - t)).natAbs = 10 ^ (12 - t) by rw [Int.natAbs_pow]; rfl, Nat.mul_assoc, ← Nat.pow_add, show t - r + (12 - t) = 12 - r by omega]
    have hsg : decide (z * 10 ^ (12 - t) < 0) = decide (z < 0) := by
      rw [decide_eq_decide]
      constructor
      · intro h
        refine Decidable.by_contra fun hn => ?_
        have := Int.mul_nonneg (show 0 ≤ z by omega) (Int.le_of_lt hpow)
        omega
      · intro h
        exact Int.mul_neg_of_neg_of_pos h hpow
    refine ⟨nk (decide (z < 0)) (u8 (64 + (T.length : Int) - r)) (Lib.trimRightB T 48), .inr ⟨V, r, by omega, by rw [← hT]; exact tl, by omega, hA, by rw [hsg, ← hT]⟩, ?_, Ev.step 2 (fun k => F86_eq k _ _ _) (Ev.bind hd ?_)⟩
    · unfold nk
      have := dig_len (Lib.trimRightB T 48)
      split
      · rw [List.length_cons, flip_len, List.length_cons]; omega
      · rw [List.length_cons, List.length_cons]; omega
    · simp only [e0, h0, decide_false, Bool.false_eq_true, if_false]
      have htr : Ev (fun k => F130 k (ba T) (⟨#[48]⟩ : ByteArray)) ((ba (Lib.trimRightB T 48), ()), ((), (), ())) := by
        refine Ev.step 1 (fun k => F130_eq k _ _) ?_
        have : trimR (ba T, (⟨#[48]⟩ : ByteArray), ()) = some ((ba (Lib.trimRightB T 48), ()), ((), (), ())) := by
          have hb : Nat.ble (ba T).size 9223372036854775807 = true := Nat.ble_eq_true_of_le (by rw [ba_size]; omega)
          show (bif Nat.blt (48 : UInt8).toNat 128 && Nat.ble (ba T).size 9223372036854775807 then _ else _) = _
          rw [hb]
          rfl
        rw [this]
        exact Ev.now _
      refine Ev.bind htx (Ev.bind htr ?_)
      have ew : IntKind.i64.wrap (IntKind.i64.wrap (64 + (((ba T).size : Nat) : Int)) - (r : Int)) = 64 + (T.length : Int) - r := by
        rw [ba_size, wrap64 (show -9223372036854775808 ≤ 64 + (T.length : Int) by omega) (by omega), wrap64 (by omega) (by omega)]
      have := nkC (n := decide (z < 0)) (l := digs V) (s := (r : Int)) (W := Lib.trimRightB T 48) (hdr := u8 (64 + (T.length : Int) - r)) (by omega) (Lib.trimRightB T 48).length 0 (by omega)
      show Ev (fun k => F86c7 k (decide (z < 0)) (digs V) (r : Int) [IntKind.u8.wrap (IntKind.i64.wrap (IntKind.i64.wrap (64 + (((ba T).size : Nat) : Int)) - (r : Int)))] (ints (Lib.trimRightB T 48)) ((ints (Lib.trimRightB T 48)).length : Int) 0) _
      rw [ew, ints1, ints_len]
      exact this
section
variable {k0 : Int} {y n : Bool} {l : List Int} {s day mo da : Int} {t : ByteArray}
theorem key_exact2 (h : vOk k0 y n l s day mo da t = true) : ∃ B : List UInt8, BodyX k0 y n l s day mo da t B ∧ B.length ≤ 2000 ∧ ∀ down : Bool, Ev (fun k => F37 k k0 y n l s day mo da t down) ((ints (if down = true then flip (u8 (IntKind.i64.wrap (k0 + 1)) :: B) else u8 (IntKind.i64.wrap (k0 + 1)) :: B), ()), (((), (), (), (), (), (), (), (), (), ()), (), ())) := by
  have hk := vOk_kind h
  have fin : ∀ {B : List UInt8}, B.length ≤ 2000 → BodyX k0 y n l s day mo da t B →
      (∀ (down : Bool) {r}, Ev (fun k => F37c13 k down (ints (u8 (IntKind.i64.wrap (k0 + 1)) :: B))) r → Ev (fun k => F37 k k0 y n l s day mo da t down) r) → ∃ B : List UInt8, BodyX k0 y n l s day mo da t B ∧ B.length ≤ 2000 ∧ ∀ down : Bool, Ev (fun k => F37 k k0 y n l s day mo da t down) ((ints (if down = true then flip (u8 (IntKind.i64.wrap (k0 + 1)) :: B) else u8 (IntKind.i64.wrap (k0 + 1)) :: B), ()), (((), (), (), (), (), (), (), (), (), ()), (), ())) := fun {B} hB hS hi =>
    ⟨B, hS, hB, fun down => hi down (key_end down _ (by rw [List.length_cons]; omega))⟩
  have hd : ∀ {B : List UInt8}, B.length ≤ 2000 → (decide ([IntKind.u8.wrap (IntKind.i64.wrap (k0 + 1))].length + (ints B).length ≤ 140737488355328)) = true := fun {B} hB => decide_eq_true (by rw [ints_len, List.length_singleton]; omega)
  have hj : ∀ B : List UInt8, [IntKind.u8.wrap (IntKind.i64.wrap (k0 + 1))] ++ ints B = ints (u8 (IntKind.i64.wrap (k0 + 1)) :: B) := fun B => by rw [ints1, ints_app]; rfl
  by_cases g1 : k0 = 1
  · refine fin (B := [u8 (bit y)]) (by simp) ⟨by omega, fun _ => rfl, by omega, by omega, by omega, by omega⟩ (fun down {r} hr => Ev.step 2 (fun k => F37_eq k _ _ _ _ _ _ _ _ _ _) ?_)
    simp only [beq_iff_eq.2 g1, if_true]
    refine Ev.bind (truth_ev y) ?_
    rw [ints1 (bit y), hd (by simp)]
    simp only [if_true, hj]
    exact hr
  have b1 := beq_eq_false_iff_ne.2 g1
  by_cases g2 : k0 = 2
  · obtain ⟨z, u, rfl, rfl, rfl, hz, hu⟩ := decOk_ex (vOk_num _ _ _ _ _ _ _ _ _ h g2)
    obtain ⟨B, hS, hB, h1⟩ := num_exact hz hu
    refine fin (B := B) (by omega) ⟨by omega, by omega, fun _ => ⟨z, u, rfl, rfl, rfl, hu, hS⟩, by omega, by omega, by omega⟩ (fun down {r} hr => Ev.step 2 (fun k => F37_eq k _ _ _ _ _ _ _ _ _ _) ?_)
    simp only [b1, beq_iff_eq.2 g2, Bool.false_eq_true, if_false, if_true]
    refine Ev.bind h1 ?_
    rw [hd (by omega)]
    simp only [if_true, hj]
    exact hr
  have b2 := beq_eq_false_iff_ne.2 g2
  by_cases g3 : k0 = 3
  · refine fin (B := k3 day) (by simp [k3]) ⟨by omega, by omega, by omega, fun _ => rfl, by omega, by omega⟩ (fun down {r} hr => Ev.step 2 (fun k => F37_eq k _ _ _ _ _ _ _ _ _ _) ?_)
    simp only [b1, b2, beq_iff_eq.2 g3, Bool.false_eq_true, if_false, if_true]
    refine Ev.bind three_ev ?_
    rw [hd (by simp [k3])]
    simp only [if_true, hj]
    exact hr
  have b3 := beq_eq_false_iff_ne.2 g3
  by_cases g4 : k0 = 4
  · obtain ⟨hm, hda⟩ := vOk_span h g4
    have w1 : IntKind.i64.wrap (mo + 120000) = mo + 120000 := wrap64 (by omega) (by omega)
    have w2 : IntKind.i64.wrap (da + 4000000) = da + 4000000 := wrap64 (by omega) (by omega)
    refine fin (B := k3 (IntKind.i64.wrap (mo + 120000)) ++ k3 (IntKind.i64.wrap (da + 4000000))) (by simp [k3]) ⟨by omega, by omega, by omega, by omega, fun _ => by rw [w1, w2], by omega⟩ (fun down {r} hr => Ev.step 2 (fun k => F37_eq k _ _ _ _ _ _ _ _ _ _) ?_)
    simp only [b1, b2, b3, beq_iff_eq.2 g4, Bool.false_eq_true, if_false, if_true]
    refine Ev.bind three_ev ?_
    rw [hd (by simp [k3])]
    simp only [if_true, hj]
    refine Ev.bind three_ev ?_
    have c : decide ((ints (u8 (IntKind.i64.wrap (k0 + 1)) :: k3 (IntKind.i64.wrap (mo + 120000)))).length + (ints (k3 (IntKind.i64.wrap (da + 4000000)))).length ≤ 140737488355328) = true := decide_eq_true (by rw [ints_len, ints_len]; simp [k3])
    simp only [c, if_true, ints_app, List.cons_append]
    exact hr
  have b4 := beq_eq_false_iff_ne.2 g4
  by_cases g5 : k0 = 5
  · have ht := vOk_text h g5
    have hl : t.data.toList.length ≤ 12 := ht
    have hT : ∀ b ∈ t.data.toList, b ≠ 0 := by
      unfold vOk bodyOk textOk figOk at h
      rw [if_neg (by omega), if_neg (by omega), if_neg (by omega), if_pos g5] at h
      simp only [Bool.and_eq_true] at h
      have hf := h.2.2.2
      rw [List.all_eq_true] at hf
      intro b hb e
      obtain ⟨i, hi, ei⟩ := List.getElem_of_mem hb
      have h1 := hf i (List.mem_range.2 hi)
      obtain ⟨u, hu, hbu⟩ := byteAt (s := t) (i := i) hi
      rw [hbu] at h1
      have hg : t[i]? = some b := by
        rw [← of_data t, ba_get, List.getElem?_eq_getElem hi, ei]
      rw [hu] at hg
      cases hg
      unfold within at h1
      rw [e] at h1
      exact absurd h1 (by decide)
    refine fin (B := t.data.toList ++ [0]) (by rw [List.length_append, List.length_singleton]; omega) ⟨by omega, by omega, by omega, by omega, by omega, fun _ => ⟨hT, rfl⟩⟩ (fun down {r} hr => Ev.step 2 (fun k => F37_eq k _ _ _ _ _ _ _ _ _ _) ?_)
    have c1 : decide ([IntKind.u8.wrap (IntKind.i64.wrap (k0 + 1))].length + (t.data.toList.map fun b => (b.toNat : Int)).length ≤ 140737488355328) = true := decide_eq_true (by rw [List.length_map, List.length_singleton]; omega)
    have e1 : [IntKind.u8.wrap (IntKind.i64.wrap (k0 + 1))] ++ (t.data.toList.map fun b => (b.toNat : Int)) = ints (u8 (IntKind.i64.wrap (k0 + 1)) :: t.data.toList) := hj t.data.toList
    have c2 : decide ((ints (u8 (IntKind.i64.wrap (k0 + 1)) :: t.data.toList)).length + [(0 : Int)].length ≤ 140737488355328) = true := decide_eq_true (by rw [ints_len, List.length_cons, List.length_singleton]; omega)
    simp only [b1, b2, b3, b4, beq_iff_eq.2 g5, Bool.false_eq_true, if_false, if_true, c1, e1, c2]
    rw [show [(0 : Int)] = ints [0] from rfl, ints_app]
    exact hr
  have b5 := beq_eq_false_iff_ne.2 g5
  · refine fin (B := []) (by simp) ⟨fun _ => rfl, by omega, by omega, by omega, by omega, by omega⟩ (fun down {r} hr => Ev.step 2 (fun k => F37_eq k _ _ _ _ _ _ _ _ _ _) ?_)
    simp only [b1, b2, b3, b4, b5, Bool.false_eq_true, if_false]
    rw [ints1]
    exact hr
theorem key_exact (h : vOk k0 y n l s day mo da t = true) : ∃ B : List UInt8, BodyX k0 y n l s day mo da t B ∧ ∀ down : Bool, Ev (fun k => F37 k k0 y n l s day mo da t down) ((ints (if down = true then flip (u8 (IntKind.i64.wrap (k0 + 1)) :: B) else u8 (IntKind.i64.wrap (k0 + 1)) :: B), ()), (((), (), (), (), (), (), (), (), (), ()), (), ())) := by
  obtain ⟨B, h1, _, h2⟩ := key_exact2 h
  exact ⟨B, h1, h2⟩
end
theorem zc_add (x y c : Int) : zc (x + c) (y + c) = zc x y := by
  unfold zc
  repeat' split
  all_goals omega
theorem body_cmp {k0 : Int} {y1 n1 : Bool} {l1 : List Int} {s1 d1 m1 a1 : Int} {t1 : ByteArray} {y2 n2 : Bool} {l2 : List Int} {s2 d2 m2 a2 : Int} {t2 : ByteArray} {B1 B2 : List UInt8} (o1 : vOk k0 y1 n1 l1 s1 d1 m1 a1 t1 = true) (o2 : vOk k0 y2 n2 l2 s2 d2 m2 a2 t2 = true)
    (S1 : BodyX k0 y1 n1 l1 s1 d1 m1 a1 t1 B1) (S2 : BodyX k0 y2 n2 l2 s2 d2 m2 a2 t2 B2) : cb B1 B2 = vc k0 y1 n1 l1 s1 d1 m1 a1 t1 y2 n2 l2 s2 d2 m2 a2 t2 := by
  have hk := vOk_kind o1
  unfold vc
  by_cases c1 : k0 = 1
  · rw [if_pos c1, S1.s1 c1, S2.s1 c1]
    cases y1 <;> cases y2 <;> decide
  by_cases c2 : k0 = 2
  · obtain ⟨z1, u1, e1, e2, e3, g1, q1⟩ := S1.s2 c2
    obtain ⟨z2, u2, e4, e5, e6, g2, q2⟩ := S2.s2 c2
    have hz : zc (z1 * 10 ^ (max u1 u2 - u1)) (z2 * 10 ^ (max u1 u2 - u2)) = zc (z1 * 10 ^ (12 - u1)) (z2 * 10 ^ (12 - u2)) := by
      rw [← zc_mul (pow10_pos (12 - max u1 u2)), Int.mul_assoc, Int.mul_assoc, ← Int.pow_add, ← Int.pow_add, show max u1 u2 - u1 + (12 - max u1 u2) = 12 - u1 by omega, show max u1 u2 - u2 + (12 - max u1 u2) = 12 - u2 by omega]
    rw [if_neg c1, if_pos c2, numX_cmp q1 q2, e1, e2, e3, e4, e5, e6, Int.toNat_natCast, Int.toNat_natCast, dCmp_D, zc_cmpZ, hz]
  by_cases c3 : k0 = 3
  · have b1 := vOk_day o1 c3
    have b2 := vOk_day o2 c3
    rw [if_neg c1, if_neg c2, if_pos c3, S1.s3 c3, S2.s3 c3, cb_k3 (by omega) (by omega)]
  by_cases c4 : k0 = 4
  · obtain ⟨b1, b2⟩ := vOk_span o1 c4
    obtain ⟨b3, b4⟩ := vOk_span o2 c4
    rw [if_neg c1, if_neg c2, if_neg c3, if_pos c4, S1.s4 c4, S2.s4 c4, cb_app _ _ (by simp [k3]), cb_k3 (by omega) (by omega), cb_k3 (by omega) (by omega), zc_add, zc_add]
    by_cases hm : m1 = m2
    · rw [if_pos hm, if_pos (zc_zero.2 hm)]
    · rw [if_neg hm, if_neg (fun h => hm (zc_zero.1 h))]
  rw [if_neg c1, if_neg c2, if_neg c3, if_neg c4]
  by_cases c5 : k0 = 5
  · obtain ⟨h1, e1⟩ := S1.s5 c5
    obtain ⟨h2, e2⟩ := S2.s5 c5
    rw [e1, e2, cb_term h1 h2]
    rfl
  · have c0 : k0 = 0 := by omega
    rw [S1.s0 c0, S2.s0 c0]
    unfold tc
    rw [vOk_noText o1 c5, vOk_noText o2 c5]
theorem key_cmp {k1 : Int} {y1 n1 : Bool} {l1 : List Int} {s1 d1 m1 a1 : Int} {t1 : ByteArray} {k2 : Int} {y2 n2 : Bool} {l2 : List Int} {s2 d2 m2 a2 : Int} {t2 : ByteArray} {B1 B2 : List UInt8} (o1 : vOk k1 y1 n1 l1 s1 d1 m1 a1 t1 = true) (o2 : vOk k2 y2 n2 l2 s2 d2 m2 a2 t2 = true)
    (S1 : BodyX k1 y1 n1 l1 s1 d1 m1 a1 t1 B1) (S2 : BodyX k2 y2 n2 l2 s2 d2 m2 a2 t2 B2) : cb (u8 (IntKind.i64.wrap (k1 + 1)) :: B1) (u8 (IntKind.i64.wrap (k2 + 1)) :: B2) = vo k1 y1 n1 l1 s1 d1 m1 a1 t1 k2 y2 n2 l2 s2 d2 m2 a2 t2 := by
  have h1 := vOk_kind o1
  have h2 := vOk_kind o2
  have e1 := u8_nat (k1 + 1)
  have e2 := u8_nat (k2 + 1)
  rw [wrap64 (show -9223372036854775808 ≤ k1 + 1 by omega) (by omega), wrap64 (show -9223372036854775808 ≤ k2 + 1 by omega) (by omega), cb_cons]
  unfold vo
  by_cases hk : k1 = k2
  · subst hk
    rw [if_neg (by omega), if_neg (by omega), if_pos rfl]
    exact body_cmp o1 o2 S1 S2
  · rw [if_neg hk]
    unfold zc
    by_cases hl : k1 < k2
    · rw [if_pos (by omega), if_pos hl]
    · rw [if_neg (by omega), if_pos (by omega), if_neg hl, if_pos (by omega)]
theorem NumX.shape {x : Int} {B : List UInt8} (h : NumX x B) : NumS B := by
  rcases h with ⟨_, e⟩ | ⟨V, r, _, _, _, _, e⟩
  · exact .inl e
  · exact .inr ⟨_, _, _, fun b hb => dd_range V b (trim_mem hb), e⟩
theorem BodyX.shape {k0 : Int} {y n : Bool} {l : List Int} {s day mo da : Int} {t : ByteArray} {B : List UInt8} (h : BodyX k0 y n l s day mo da t B) : BodyS k0 B :=
  ⟨h.s0, fun e => by rw [h.s1 e]; rfl, fun e => by obtain ⟨_, _, _, _, _, _, q⟩ := h.s2 e; exact q.shape, fun e => by rw [h.s3 e]; rfl, fun e => by rw [h.s4 e]; rfl, fun e => ⟨_, (h.s5 e).1, (h.s5 e).2⟩⟩
end Go.Proofs.YtiojgdjpigcgaaaGreatDoor.R
end

section
/-! Rf: what the laws draw: numbers and decimals. -/
set_option autoImplicit false
set_option linter.unusedSimpArgs false
set_option linter.unusedVariables false
namespace Go.Proofs.YtiojgdjpigcgaaaGreatDoor.R
open Go.Rf
/-- a reader's bytes -/
structure Rd (bs : List Int) : Prop where
  len : bs.length ≤ 2000
  b8 : ∀ y ∈ bs, 0 ≤ y ∧ y ≤ 255
theorem xor_small {a b : Int} (ha : 0 ≤ a) (ha2 : a < 4611686018427387904) (hb : 0 ≤ b) (hb2 : b < 4611686018427387904) : 0 ≤ IntKind.i64.wrap (((BitVec.ofInt IntKind.i64.bits a ^^^ BitVec.ofInt IntKind.i64.bits b).toNat : Nat) : Int) := by
  have e : IntKind.i64.bits = 64 := rfl
  have h1 : (BitVec.ofInt IntKind.i64.bits a).toNat < 2 ^ 62 := by
    rw [BitVec.toNat_ofInt, e]
    omega
  have h2 : (BitVec.ofInt IntKind.i64.bits b).toNat < 2 ^ 62 := by
    rw [BitVec.toNat_ofInt, e]
    omega
  have h3 : (BitVec.ofInt IntKind.i64.bits a ^^^ BitVec.ofInt IntKind.i64.bits b).toNat < 2 ^ 62 := by
    rw [BitVec.toNat_xor]
    exact Nat.xor_lt_two_pow h1 h2
  rw [wrap64 (by omega) (by omega)]
  omega
theorem tmod_range {x n : Int} (hx : 0 ≤ x) (hn : 1 ≤ n) : 0 ≤ x.tmod n ∧ x.tmod n < n := by
  rw [Int.tmod_eq_emod_of_nonneg hx]
  exact ⟨Int.emod_nonneg _ (by omega), Int.emod_lt_of_pos _ (by omega)⟩
theorem pick_ev {bs : List Int} (hb : Rd bs) {p : Nat} (hp : p ≤ 1000000000) (n : Int) : ∃ v : Int, (0 ≤ v ∧ (1 ≤ n → v < n) ∧ (n < 1 → v = 0)) ∧ Ev (fun k => F52 k bs (p : Int) n) ((v, ()), ((bs, ((p + 1 : Nat) : Int), ()), (), ())) := by
  have e1 : IntKind.i64.wrap ((p : Int) + 1) = ((p + 1 : Nat) : Int) := wrap_succ (by omega)
  have e2 : IntKind.i64.wrap (((p + 1 : Nat) : Int) - 1) = (p : Int) := by rw [wrap64 (by omega) (by omega)]; omega
  have st : ∀ {r}, Ev (fun _ => if (decide (n < (1 : Int))) = true then some (((0 : Int), ()), ((bs, ((p + 1 : Nat) : Int), ()), (), ())) else if ((bs.length : Int) == (0 : Int)) = true then some (((0 : Int), ()), ((bs, ((p + 1 : Nat) : Int), ()), (), ())) else if (decide ((p : Int) < (bs.length : Int))) = true then if (decide (0 ≤ (p : Int))) = true then (bs[((p : Int)).toNat]?).bind fun y1 => if (!(n == 0)) = true then some ((((IntKind.i64.wrap y1).tmod n), ()), ((bs, ((p + 1 : Nat) : Int), ()), (), ())) else none else none else if (!((bs.length : Int) == 0)) = true then if (decide (0 ≤ ((p : Int).tmod (bs.length : Int)))) = true then (bs[((p : Int).tmod (bs.length : Int)).toNat]?).bind fun y2 => if (!((bs.length : Int) == 0)) = true then if (decide (0 ≤ ((IntKind.i64.wrap ((IntKind.i64.wrap ((p : Int) * (7 : Int))) + (3 : Int))).tmod (bs.length : Int)))) = true then (bs[((IntKind.i64.wrap ((IntKind.i64.wrap ((p : Int) * (7 : Int))) + (3 : Int))).tmod (bs.length : Int)).toNat]?).bind fun y3 => if (!((bs.length : Int) == 0)) = true then if (!(n == 0)) = true then some ((((IntKind.i64.wrap (((BitVec.ofInt IntKind.i64.bits (IntKind.i64.wrap ((IntKind.i64.wrap ((IntKind.i64.wrap ((IntKind.i64.wrap ((IntKind.i64.wrap y2) * (131 : Int))) + (IntKind.i64.wrap ((IntKind.i64.wrap y3) * (1117 : Int))))) + (IntKind.i64.wrap ((p : Int) * (29 : Int))))) + (IntKind.i64.wrap ((IntKind.i64.wrap ((p : Int).tdiv (bs.length : Int))) * (53 : Int))))) ^^^ BitVec.ofInt IntKind.i64.bits (IntKind.i64.wrap ((IntKind.i64.wrap ((IntKind.i64.wrap ((IntKind.i64.wrap ((IntKind.i64.wrap ((IntKind.i64.wrap y2) * (131 : Int))) + (IntKind.i64.wrap ((IntKind.i64.wrap y3) * (1117 : Int))))) + (IntKind.i64.wrap ((p : Int) * (29 : Int))))) + (IntKind.i64.wrap ((IntKind.i64.wrap ((p : Int).tdiv (bs.length : Int))) * (53 : Int))))).tdiv (64 : Int)))).toNat : Int))).tmod n), ()), ((bs, ((p + 1 : Nat) : Int), ()), (), ())) else none else none else none else none else none else none) r → Ev (fun k => F52 k bs (p : Int) n) r := by
    intro r h
    refine Ev.step 2 (fun k => F52_eq k _ _ _) ?_
    simp only [e1, e2]
    exact h
  by_cases h1 : n < 1
  · refine ⟨0, ⟨Int.le_refl _, fun h => by omega, fun _ => rfl⟩, st ?_⟩
    simp only [decide_eq_true h1, if_true]
    exact Ev.now _
  · have hn : (!(n == 0)) = true := by simp; omega
    by_cases h2 : bs.length = 0
    · refine ⟨0, ⟨Int.le_refl _, fun h => by omega, fun _ => rfl⟩, st ?_⟩
      simp only [decide_eq_false h1, Bool.false_eq_true, if_false, h2, Int.ofNat_zero, beq_self_eq_true, if_true]
      exact Ev.now _
    · have hl0 : ((bs.length : Int) == 0) = false := by rw [beq_eq_false_iff_ne]; omega
      by_cases h3 : p < bs.length
      · obtain ⟨y, hy⟩ : ∃ y, bs[p]? = some y := ⟨_, List.getElem?_eq_getElem h3⟩
        have hy8 := hb.b8 y (List.mem_of_getElem? hy)
        have hr := tmod_range (n := n) hy8.1 (by omega)
        refine ⟨y.tmod n, ⟨hr.1, fun _ => hr.2, fun h => by omega⟩, st ?_⟩
        have ey : IntKind.i64.wrap y = y := wrap64 (by omega) (by omega)
        simp only [decide_eq_false h1, Bool.false_eq_true, if_false, hl0, lt_true h3, ge0, if_true, Int.toNat_natCast, hy, Option.bind_some, hn, ey]
        exact Ev.now _
      · have hpos : (0 : Int) < (bs.length : Int) := by omega
        have t1 := tmod_range (x := (p : Int)) (n := (bs.length : Int)) (by omega) (by omega)
        have w7 : IntKind.i64.wrap ((p : Int) * 7) = (p : Int) * 7 := wrap64 (by omega) (by omega)
        have w73 : IntKind.i64.wrap ((p : Int) * 7 + 3) = (p : Int) * 7 + 3 := wrap64 (by omega) (by omega)
        have t2 := tmod_range (x := (p : Int) * 7 + 3) (n := (bs.length : Int)) (by omega) (by omega)
        obtain ⟨y, hy⟩ : ∃ y, bs[((p : Int).tmod (bs.length : Int)).toNat]? = some y := ⟨_, List.getElem?_eq_getElem (by omega)⟩
        obtain ⟨z, hz⟩ : ∃ z, bs[((((p : Int) * 7 + 3)).tmod (bs.length : Int)).toNat]? = some z := ⟨_, List.getElem?_eq_getElem (by omega)⟩
        have hy8 := hb.b8 y (List.mem_of_getElem? hy)
        have hz8 := hb.b8 z (List.mem_of_getElem? hz)
        have ey : IntKind.i64.wrap y = y := wrap64 (by omega) (by omega)
        have ez : IntKind.i64.wrap z = z := wrap64 (by omega) (by omega)
        have d0 : 0 ≤ (p : Int).tdiv (bs.length : Int) ∧ (p : Int).tdiv (bs.length : Int) ≤ (p : Int) := by
          rw [Int.tdiv_eq_ediv_of_nonneg (by omega)]
          exact ⟨Int.ediv_nonneg (by omega) (by omega), Int.ediv_le_self _ (by omega)⟩
        obtain ⟨d, hd⟩ : ∃ d, d = (p : Int).tdiv (bs.length : Int) := ⟨_, rfl⟩
        rw [← hd] at d0
        have w1 : IntKind.i64.wrap (y * 131) = y * 131 := wrap64 (by omega) (by omega)
        have w2 : IntKind.i64.wrap (z * 1117) = z * 1117 := wrap64 (by omega) (by omega)
        have w3 : IntKind.i64.wrap (y * 131 + z * 1117) = y * 131 + z * 1117 := wrap64 (by omega) (by omega)
        have w4 : IntKind.i64.wrap ((p : Int) * 29) = (p : Int) * 29 := wrap64 (by omega) (by omega)
        have w5 : IntKind.i64.wrap (y * 131 + z * 1117 + (p : Int) * 29) = y * 131 + z * 1117 + (p : Int) * 29 := wrap64 (by omega) (by omega)
        have w6 : IntKind.i64.wrap d = d := wrap64 (by omega) (by omega)
        have w8 : IntKind.i64.wrap (d * 53) = d * 53 := wrap64 (by omega) (by omega)
        obtain ⟨X, hX⟩ : ∃ X, X = y * 131 + z * 1117 + (p : Int) * 29 + d * 53 := ⟨_, rfl⟩
        have hX0 : 0 ≤ X ∧ X ≤ 1000000000000 := by omega
        have w9 : IntKind.i64.wrap X = X := wrap64 (by omega) (by omega)
        have q0 : 0 ≤ X.tdiv 64 ∧ X.tdiv 64 ≤ X := by
          rw [Int.tdiv_eq_ediv_of_nonneg (by omega)]
          omega
        have w10 : IntKind.i64.wrap (X.tdiv 64) = X.tdiv 64 := wrap64 (by omega) (by omega)
        have hx := xor_small (a := X) (b := X.tdiv 64) (by omega) (by omega) (by omega) (by omega)
        have hr := tmod_range (n := n) hx (by omega)
        refine ⟨_, ⟨hr.1, fun _ => hr.2, fun h => by omega⟩, st ?_⟩
        simp only [decide_eq_false h1, Bool.false_eq_true, if_false, hl0, lt_false (show bs.length ≤ p by omega), Bool.not_false, if_true, decide_eq_true t1.1, hy, Option.bind_some, w7, w73, decide_eq_true t2.1, hz, hn, ey, ez, w1, w2, w3, w4, w5, ← hd, w6, w8, ← hX, w9, w10]
        exact Ev.now _
theorem one_ev {bs : List Int} (hb : Rd bs) {p : Nat} (hp : p ≤ 1000000000) (l : List Int) (hl : 0 < l.length) : ∃ v ∈ l, Ev (fun k => F54 k bs (p : Int) l) ((v, ()), ((bs, ((p + 1 : Nat) : Int), ()), (), ())) := by
  obtain ⟨v, ⟨h0, h1, _⟩, h2⟩ := pick_ev hb hp (l.length : Int)
  have h1 := h1 (by omega)
  obtain ⟨y, hy⟩ : ∃ y, l[v.toNat]? = some y := ⟨_, List.getElem?_eq_getElem (by omega)⟩
  refine ⟨y, List.mem_of_getElem? hy, Ev.step 2 (fun k => F54_eq k _ _ _) (Ev.bind h2 ?_)⟩
  simp only [decide_eq_true h0, decide_eq_true h1, Bool.and_self, if_true, hy, Option.bind_some]
  exact Ev.now _
/-! ### figures -/
def Fig (s : ByteArray) : Prop := ∀ b ∈ s.data.toList, 48 ≤ b.toNat ∧ b.toNat ≤ 57
theorem Fig.app {s t : ByteArray} (hs : Fig s) (ht : Fig t) : Fig (s ++ t) := by
  intro b hb
  rw [ByteArray.data_append, Array.toList_append, List.mem_append] at hb
  rcases hb with hb | hb
  · exact hs b hb
  · exact ht b hb
theorem fig1 {d : Nat} (h : d < 10) : Fig ⟨[UInt8.ofNat (48 + d)].toArray⟩ := by
  intro b hb
  have hb : b ∈ [UInt8.ofNat (48 + d)] := hb
  rw [List.mem_singleton.1 hb, UInt8.toNat_ofNat']
  omega
theorem size_app (s t : ByteArray) : (s ++ t).size = s.size + t.size := ByteArray.size_append ..
section
variable {bs : List Int} (hb : Rd bs)
include hb
theorem figsI {n : Nat} (hn : n ≤ 64) : ∀ (m p : Nat) (s : ByteArray), s.size + m = max n s.size → p + 2 * m ≤ 1000000 → Fig s → s.size ≤ 64 → ∃ (t : ByteArray) (q : Nat), q ≤ p + 2 * m ∧ Fig t ∧ t.size ≤ 64 ∧ 0 < s.size + t.size + 1 ∧ s.size ≤ t.size ∧
    Ev (fun k => F187c4 k bs (p : Int) (n : Int) s) ((t, ()), ((bs, (q : Int), ()), (), ())) := by
  intro m
  induction m with
  | zero =>
    intro p s hs hp hf h64
    refine ⟨s, p, by omega, hf, h64, by omega, Nat.le_refl _, Ev.step 1 (fun k => F187c4_eq k _ _ _ _) ?_⟩
    simp only [lt_false (show n ≤ s.size by omega), Bool.false_eq_true, if_false]
    exact Ev.now _
  | succ m ih =>
    intro p s hs hp hf h64
    obtain ⟨v1, ⟨a0, a1, _⟩, h1⟩ := pick_ev hb (show p ≤ 1000000000 by omega) 10
    have a1 := a1 (by omega)
    obtain ⟨v2, hm, h2⟩ := one_ev hb (show p + 1 ≤ 1000000000 by omega) [0, 0, 9, 9, 5, 1, v1] (by simp)
    have hv : 0 ≤ v2 ∧ v2 < 10 := by
      simp only [List.mem_cons, List.not_mem_nil, or_false] at hm
      omega
    obtain ⟨d, rfl⟩ : ∃ d : Nat, v2 = (d : Int) := ⟨v2.toNat, by omega⟩
    have hd : d < 10 := by omega
    have hsz : (⟨[UInt8.ofNat (48 + d)].toArray⟩ : ByteArray).size = 1 := rfl
    have hs2 : (s ++ (⟨[UInt8.ofNat (48 + d)].toArray⟩ : ByteArray)).size = s.size + 1 := by rw [size_app, hsz]
    obtain ⟨t, q, hq, ht, ht64, _, hle, hE⟩ := ih (p + 1 + 1) (s ++ (⟨[UInt8.ofNat (48 + d)].toArray⟩ : ByteArray)) (by rw [hs2]; omega) (by omega) (hf.app (fig1 hd)) (by rw [hs2]; omega)
    refine ⟨t, q, by omega, ht, ht64, by omega, by omega, Ev.step 1 (fun k => F187c4_eq k _ _ _ _) ?_⟩
    simp only [lt_true (show s.size < n by omega), if_true]
    refine Ev.bind h1 (Ev.bind h2 ?_)
    simp only [bytesOf_digit hd, hsz]
    have hble : Nat.ble (s.size + 1) 9223372036854775807 = true := Nat.ble_eq_true_of_le (by omega)
    simp only [hble, if_true]
    exact hE
theorem figs_ev {n : Int} (h0 : 0 ≤ n) (hn : n ≤ 64) {p : Nat} (hp : p + 200 ≤ 1000000) : ∃ (t : ByteArray) (q : Nat), q ≤ p + 200 ∧ Fig t ∧ t.size ≤ 64 ∧ Ev (fun k => F187 k bs (p : Int) n) ((t, ()), ((bs, (q : Int), ()), (), ())) := by
  obtain ⟨m, rfl⟩ : ∃ m : Nat, n = (m : Int) := ⟨n.toNat, by omega⟩
  by_cases h1 : m < 1
  · refine ⟨⟨#[48]⟩, p, by omega, fig1 (d := 0) (by omega), by decide, Ev.step 2 (fun k => F187_eq k _ _ _) ?_⟩
    simp only [decide_eq_true (show (m : Int) < 1 by omega), if_true]
    exact Ev.now _
  · obtain ⟨v, ⟨a0, a1, _⟩, h2⟩ := pick_ev hb (show p ≤ 1000000000 by omega) 9
    have a1 := a1 (by omega)
    obtain ⟨d, rfl⟩ : ∃ d : Nat, v = (d : Int) := ⟨v.toNat, by omega⟩
    have e : (49 : Int) + (d : Int) = 48 + ((d + 1 : Nat) : Int) := by omega
    obtain ⟨t, q, hq, ht, ht64, _, _, hE⟩ := figsI hb (n := m) (by omega) (m - 1) (p + 1) ⟨[UInt8.ofNat (48 + (d + 1))].toArray⟩ (by show 1 + (m - 1) = max m 1; omega) (by omega) (fig1 (by omega)) (by show 1 ≤ 64; omega)
    refine ⟨t, q, by omega, ht, ht64, Ev.step 2 (fun k => F187_eq k _ _ _) ?_⟩
    simp only [decide_eq_false (show ¬ (m : Int) < 1 by omega), Bool.false_eq_true, if_false]
    refine Ev.bind h2 ?_
    simp only [e, bytesOf_digit (show d + 1 < 10 by omega)]
    exact hE
end
theorem many_ev {a : ByteArray} (ha : Fig a) (h1 : a.size = 1) : ∀ (m : Nat) (s : ByteArray), Fig s → s.size + m ≤ 64 → ∃ t : ByteArray, Fig t ∧ t.size = s.size + m ∧ Ev (fun k => F188c2 k a (m : Int) s) ((t, ()), ((), (), ())) := by
  intro m
  induction m with
  | zero =>
    intro s hs hm
    refine ⟨s, hs, rfl, Ev.step 1 (fun k => F188c2_eq k _ _ _) ?_⟩
    simp only [show decide (((0 : Nat) : Int) > 0) = false from by decide, Bool.false_eq_true, if_false]
    exact Ev.now _
  | succ m ih =>
    intro s hs hm
    have hsz : (s ++ a).size = s.size + 1 := by rw [size_app, h1]
    obtain ⟨t, ht, ht2, hE⟩ := ih (s ++ a) (hs.app ha) (by omega)
    have e : IntKind.i64.wrap (((m + 1 : Nat) : Int) - 1) = (m : Int) := by rw [wrap64 (by omega) (by omega)]; omega
    have hble : Nat.ble (s.size + a.size) 9223372036854775807 = true := Nat.ble_eq_true_of_le (by omega)
    refine ⟨t, ht, by omega, Ev.step 1 (fun k => F188c2_eq k _ _ _) ?_⟩
    simp only [decide_eq_true (show ((m + 1 : Nat) : Int) > 0 by omega), if_true, hble, e]
    exact hE
theorem l1Many_ev {a : ByteArray} (ha : Fig a) (h1 : a.size = 1) {n : Int} (hn : n ≤ 64) (h0 : -10 ≤ n) : ∃ t : ByteArray, Fig t ∧ t.size = n.toNat ∧ Ev (fun k => F188 k a n) ((t, ()), ((), (), ())) := by
  by_cases h : 0 ≤ n
  · obtain ⟨m, rfl⟩ : ∃ m : Nat, n = (m : Int) := ⟨n.toNat, by omega⟩
    obtain ⟨t, h2, h3, h4⟩ := many_ev ha h1 m ⟨#[]⟩ (fun b hb => by simp at hb) (by show 0 + m ≤ 64; omega)
    exact ⟨t, h2, by rw [h3]; show 0 + m = _; omega, Ev.step 2 (fun k => F188_eq k _ _) h4⟩
  · refine ⟨⟨#[]⟩, fun b hb => by simp at hb, by show 0 = _; omega, Ev.step 2 (fun k => F188_eq k _ _) (Ev.step 1 (fun k => F188c2_eq k _ _ _) ?_)⟩
    simp only [decide_eq_false (show ¬ n > 0 by omega), Bool.false_eq_true, if_false]
    exact Ev.now _
end Go.Proofs.YtiojgdjpigcgaaaGreatDoor.R
end

section
/-! Rf: what the laws draw: big integers. -/
set_option autoImplicit false
set_option linter.unusedSimpArgs false
set_option linter.unusedVariables false
namespace Go.Proofs.YtiojgdjpigcgaaaGreatDoor.R
open Go.Rf
theorem trimD {l : List Int} (hr : InR l) (hl : l.length ≤ 1000000) : ∃ N : Nat, (digs N).length ≤ l.length ∧ Ev (fun k => F224 k l) ((digs N, ()), ((), ())) := by
  refine ⟨(VI l).toNat, digs_len_le ?_, l1Trim_ev hr hl⟩
  have h1 := VI_lt hr
  have h2 := VI_nonneg hr
  have h3 : ((10000 ^ l.length : Nat) : Int) = 10000 ^ l.length := Int.natCast_pow ..
  omega
theorem byte_at {s : ByteArray} {i : Nat} (h : i < s.size) : s[i]? = some s[i] := by
  exact getElem?_pos s i h
theorem fig_at {s : ByteArray} (hs : Fig s) {i : Nat} (h : i < s.size) : 48 ≤ s[i].toNat ∧ s[i].toNat ≤ 57 := by
  refine hs _ ?_
  show s.data[i] ∈ s.data.toList
  rw [← Array.getElem_toList]
  exact List.getElem_mem _
theorem fig_extract {s : ByteArray} (hs : Fig s) (n : Nat) : Fig (s.extract 0 n) := by
  intro b hb
  rw [ByteArray.data_extract, Array.toList_extract] at hb
  exact hs b (List.mem_of_mem_drop (List.mem_of_mem_take hb))
theorem figVal {u : UInt8} (h : 48 ≤ u.toNat ∧ u.toNat ≤ 57) : IntKind.i64.wrap (IntKind.u8.wrap ((u.toNat : Int) - 48)) = ((u.toNat - 48 : Nat) : Int) := by
  rw [u8_small (by omega) (by omega), wrap64 (by omega) (by omega)]
  omega
theorem ffC : ∀ (m : Nat) (s : ByteArray) (x3 : List Int), s.size ≤ m → Fig s → InR x3 → x3.length + s.size ≤ 1000 → ∃ N : Nat, (digs N).length ≤ 1000 ∧ Ev (fun k => F190c2 k s x3) ((digs N, ()), ((), ())) := by
  intro m
  induction m using Nat.strongRecOn with
  | _ m ih =>
    intro s x3 hm hs hx hl
    by_cases h0 : s.size = 0
    · obtain ⟨N, hN1, h1⟩ := trimD hx (by omega)
      refine ⟨N, by omega, Ev.step 1 (fun k => F190c2_eq k _ _) ?_⟩
      simp only [h0, show decide (((0 : Nat) : Int) > 0) = false from by decide, Bool.false_eq_true, if_false]
      exact Ev.bind h1 (Ev.now _)
    · have hp : decide ((s.size : Int) > 0) = true := decide_eq_true (by omega)
      have key : ∀ f : Nat, f < s.size → s.size ≤ f + 4 → ∃ N : Nat, (digs N).length ≤ 1000 ∧ Ev (fun k => F190c6 k s x3 (f : Int)) ((digs N, ()), ((), ())) := by
        intro f hf hf4
        have hsz : (s.extract 0 f).size = f := by simp; omega
        have hN : ∀ d : Nat, d ≤ 9999 → ∃ N : Nat, (digs N).length ≤ 1000 ∧ Ev (fun k => F190c2 k (s.extract 0 f) (x3 ++ [(d : Int)])) ((digs N, ()), ((), ())) := fun d hd =>
          ih f (by omega) (s.extract 0 f) (x3 ++ [(d : Int)]) (by omega) (fig_extract hs f) (inrSnoc hx (by omega)) (by simp; omega)
        -- which limb it is
        have hd : ∃ d : Nat, d ≤ 9999 ∧ ∀ R, (Ev (fun k => if (decide (x3.length + [(d : Int)].length ≤ 17592186044416)) = true then if (decide (0 ≤ (f : Int)) && decide ((f : Int) ≤ (s.size : Int))) = true then F190c2 k (s.extract 0 ((f : Int)).toNat) (x3 ++ [(d : Int)]) else none else none) R) → Ev (fun k => F190c6 k s x3 (f : Int)) R := by
          have walk : ∀ (m i d : Nat), i + m = s.size → f ≤ i → d < 10 ^ (i - f) → ∃ d' : Nat, d' ≤ 9999 ∧ ∀ R, (Ev (fun k => if (decide (x3.length + [(d' : Int)].length ≤ 17592186044416)) = true then if (decide (0 ≤ (f : Int)) && decide ((f : Int) ≤ (s.size : Int))) = true then F190c2 k (s.extract 0 ((f : Int)).toNat) (x3 ++ [(d' : Int)]) else none else none) R) → Ev (fun k => F190c8 k s x3 (f : Int) (d : Int) (i : Int)) R := by
            intro m
            induction m with
            | zero =>
              intro i d hi hfi hd
              have : 10 ^ (i - f) ≤ 10 ^ 4 := Nat.pow_le_pow_right (by omega) (by omega)
              refine ⟨d, by omega, fun R hR => Ev.step 1 (fun k => F190c8_eq k _ _ _ _ _) ?_⟩
              simp only [lt_false (show s.size ≤ i by omega), Bool.false_eq_true, if_false]
              exact hR
            | succ m ihm =>
              intro i d hi hfi hd
              have hlt : i < s.size := by omega
              have hfa := fig_at hs hlt
              have h4 : 10 ^ (i - f) ≤ 10 ^ 3 := Nat.pow_le_pow_right (by omega) (by omega)
              have e1 : IntKind.i64.wrap ((d : Int) * 10) = ((d * 10 : Nat) : Int) := by rw [wrap64 (by omega) (by omega)]; omega
              have e2 : IntKind.i64.wrap (((d * 10 : Nat) : Int) + ((s[i].toNat - 48 : Nat) : Int)) = ((d * 10 + (s[i].toNat - 48) : Nat) : Int) := by rw [wrap64 (by omega) (by omega)]; omega
              obtain ⟨d', h1, h2⟩ := ihm (i + 1) (d * 10 + (s[i].toNat - 48)) (by omega) (by omega) (by
                rw [show i + 1 - f = (i - f) + 1 by omega, Nat.pow_succ]
                omega)
              refine ⟨d', h1, fun R hR => Ev.step 1 (fun k => F190c8_eq k _ _ _ _ _) ?_⟩
              simp only [lt_true hlt, ge0, if_true, Int.toNat_natCast, byte_at hlt, Option.bind_some, figVal hfa, e1, e2, wrap_succ (show i < 9223372036854775807 by omega)]
              exact h2 R hR
          obtain ⟨d, h1, h2⟩ := walk (s.size - f) f 0 (by omega) (Nat.le_refl _) (by rw [Nat.sub_self]; decide)
          exact ⟨d, h1, fun R hR => Ev.step 1 (fun k => F190c6_eq k _ _ _) (h2 R hR)⟩
        obtain ⟨d, hd1, hd2⟩ := hd
        obtain ⟨N, hN1, hN⟩ := hN d hd1
        refine ⟨N, hN1, hd2 _ ?_⟩
        simp only [decide_eq_true (show x3.length + [(d : Int)].length ≤ 17592186044416 by simp; omega), if_true, ge0, le_true (Nat.le_of_lt hf), Bool.and_self, Int.toNat_natCast]
        exact hN
      have e4 : IntKind.i64.wrap ((s.size : Int) - 4) = (s.size : Int) - 4 := wrap64 (by omega) (by omega)
      by_cases h4 : s.size < 4
      · obtain ⟨N, hN1, hN⟩ := key 0 (by omega) (by omega)
        refine ⟨N, hN1, Ev.step 1 (fun k => F190c2_eq k _ _) ?_⟩
        simp only [hp, if_true, e4, decide_eq_true (show (s.size : Int) - 4 < 0 by omega)]
        exact hN
      · obtain ⟨N, hN1, hN⟩ := key (s.size - 4) (by omega) (by omega)
        refine ⟨N, hN1, Ev.step 1 (fun k => F190c2_eq k _ _) ?_⟩
        simp only [hp, if_true, e4, decide_eq_false (show ¬ (s.size : Int) - 4 < 0 by omega), Bool.false_eq_true, if_false]
        rw [show (s.size : Int) - 4 = ((s.size - 4 : Nat) : Int) by omega]
        exact hN
theorem ff_ev {s : ByteArray} (hs : Fig s) (hl : s.size ≤ 900) : ∃ N : Nat, (digs N).length ≤ 1000 ∧ Ev (fun k => F190 k s) ((digs N, ()), ((), ())) := by
  obtain ⟨N, h1, h⟩ := ffC s.size s [] (Nat.le_refl _) hs InR.nil (by simp; omega)
  exact ⟨N, h1, Ev.step 2 (fun k => F190_eq k _) h⟩
/-- a big integer in order, out of its number -/
theorem l1Big_any (neg : Bool) (N : Nat) (hl : (digs N).length ≤ 1000) : ∃ (z : Int) (ok : Bool), z.natAbs < 10000 ^ 16 ∧ Ev (fun k => F189 k neg (digs N)) (((decide (z < 0), digs z.natAbs, ()), ok, ()), ((), (), ())) := by
  have ht := l1Trim_ev (digs_InR N) (by omega)
  rw [VI_digs, Int.toNat_natCast] at ht
  by_cases h16 : (digs N).length > 16
  · refine ⟨0, false, by decide, Ev.step 2 (fun k => F189_eq k _ _) (Ev.bind ht ?_)⟩
    simp only [decide_eq_true (show ((digs N).length : Int) > 16 by omega), if_true]
    rw [show (0 : Int).natAbs = 0 from rfl, digs_zero]
    exact Ev.now _
  · have hN : N < 10000 ^ 16 := by
      have h1 := VI_lt (digs_InR N)
      rw [VI_digs] at h1
      have h2 : N < 10000 ^ (digs N).length := by
        have : ((N : Nat) : Int) < ((10000 ^ (digs N).length : Nat) : Int) := by rw [Int.natCast_pow]; exact h1
        omega
      have h3 : 10000 ^ (digs N).length ≤ 10000 ^ 16 := Nat.pow_le_pow_right (by omega) (by omega)
      omega
    refine ⟨sg neg N, true, by rw [sg_abs]; exact hN, Ev.step 2 (fun k => F189_eq k _ _) (Ev.bind ht ?_)⟩
    rw [sg_abs]
    simp only [decide_eq_false (show ¬ ((digs N).length : Int) > 16 by omega), Bool.false_eq_true, if_false, len_gt]
    cases neg with
    | true =>
      have e : decide (sg true N < 0) = decide (N ≠ 0) := by
        unfold sg
        simp only [if_true]
        congr 1
        exact propext ⟨fun h => by omega, fun h => by omega⟩
      simp only [if_true, e]
      exact Ev.now _
    | false =>
      have e : decide (sg false N < 0) = false := by unfold sg; simp
      simp only [Bool.false_eq_true, if_false, e]
      exact Ev.now _
/-! ### the reference's number of a whole number -/
theorem tmod_abs (x : Int) : (x.tmod 10000 < 0 → 0 - x.tmod 10000 = ((x.natAbs % 10000 : Nat) : Int)) ∧ (¬ x.tmod 10000 < 0 → x.tmod 10000 = ((x.natAbs % 10000 : Nat) : Int)) ∧ (x.tdiv 10000).natAbs = x.natAbs / 10000 ∧ -10000 < x.tmod 10000 ∧ x.tmod 10000 < 10000 := by
  rcases Int.natAbs_eq x with h | h
  · have h1 : x.tmod 10000 = ((x.natAbs % 10000 : Nat) : Int) := by
      rw [Int.tmod_eq_emod_of_nonneg (by omega)]; omega
    have h2 : x.tdiv 10000 = ((x.natAbs / 10000 : Nat) : Int) := by
      rw [Int.tdiv_eq_ediv_of_nonneg (by omega)]; omega
    rw [h1, h2]
    omega
  · have h1 : x.tmod 10000 = -((x.natAbs % 10000 : Nat) : Int) := by
      conv => lhs; rw [h]
      rw [Int.neg_tmod, Int.tmod_eq_emod_of_nonneg (by omega)]; omega
    have h2 : x.tdiv 10000 = -((x.natAbs / 10000 : Nat) : Int) := by
      conv => lhs; rw [h]
      rw [Int.neg_tdiv, Int.tdiv_eq_ediv_of_nonneg (by omega)]; omega
    rw [h1, h2]
    omega
theorem bofC {n : Int} {b : Bool} {l : List Int} : ∀ (m : Nat) (x3 : List Int) (x4 : Int), x4.natAbs ≤ m → m < 10000 ^ 4 → x3.length + (digs x4.natAbs).length ≤ 1000 →
    Ev (fun k => F153c3 k n b l x3 x4) (((decide (n < 0), x3 ++ digs x4.natAbs, ()), ()), ((), ())) := by
  intro m
  induction m using Nat.strongRecOn with
  | _ m ih =>
    intro x3 x4 hm hm2 hl
    have h44 : (10000 : Nat) ^ 4 = 10000000000000000 := by decide
    by_cases h0 : x4 = 0
    · subst h0
      refine Ev.step 1 (fun k => F153c3_eq k _ _ _ _ _) ?_
      simp only [bne_self_eq_false, Bool.false_eq_true, if_false]
      rw [show (0 : Int).natAbs = 0 from rfl, digs_zero, List.append_nil]
      exact Ev.now _
    · have hn : x4.natAbs ≠ 0 := by omega
      obtain ⟨t1, t2, t3, t4, t5⟩ := tmod_abs x4
      have e : digs x4.natAbs = ((x4.natAbs % 10000 : Nat) : Int) :: digs (x4.tdiv 10000).natAbs := by rw [digs_pos hn, t3]
      rw [e, List.length_cons] at hl
      have hw : IntKind.i64.wrap (x4.tdiv 10000) = x4.tdiv 10000 := wrap64 (by omega) (by omega)
      have next : Ev (fun k => F153c7 k n b l x3 x4 ((x4.natAbs % 10000 : Nat) : Int)) (((decide (n < 0), x3 ++ digs x4.natAbs, ()), ()), ((), ())) := by
        have h1 := ih (x4.tdiv 10000).natAbs (by omega) (x3 ++ [((x4.natAbs % 10000 : Nat) : Int)]) (x4.tdiv 10000) (Nat.le_refl _) (by omega) (by rw [List.length_append, List.length_singleton]; omega)
        rw [List.append_assoc, List.singleton_append, ← e] at h1
        refine Ev.step 1 (fun k => F153c7_eq k _ _ _ _ _ _) ?_
        simp only [decide_eq_true (show x3.length + [((x4.natAbs % 10000 : Nat) : Int)].length ≤ 17592186044416 by simp; omega), if_true, hw]
        exact h1
      refine Ev.step 1 (fun k => F153c3_eq k _ _ _ _ _) ?_
      simp only [show (x4 != 0) = true from by simpa using h0, if_true]
      by_cases hneg : x4.tmod 10000 < 0
      · have hw2 : IntKind.i64.wrap (0 - x4.tmod 10000) = ((x4.natAbs % 10000 : Nat) : Int) := by
          rw [wrap64 (by omega) (by omega)]
          exact t1 hneg
        simp only [decide_eq_true hneg, if_true, hw2]
        exact next
      · simp only [decide_eq_false hneg, Bool.false_eq_true, if_false]
        rw [t2 hneg]
        exact next
theorem BigOf_sp {n : Int} (h : n.natAbs < 10000 ^ 4) : Ev (fun k => F153 k n) (((decide (n < 0), digs n.natAbs, ()), ()), ((), ())) := by
  have := bofC (n := n) (b := false) (l := []) n.natAbs [] n (Nat.le_refl _) h (by have := digs_len_le h; simp; omega)
  rw [List.nil_append] at this
  exact Ev.step 2 (fun k => F153_eq k _) this
/-! ### drawn -/
section
variable {bs : List Int} (hb : Rd bs)
include hb
theorem bigC9 {p : Nat} (hp : p + 10 ≤ 1000000) {b : Bool} {l : List Int} {s : ByteArray} (hs : Fig s) (h64 : s.size ≤ 64) : ∃ (z : Int) (q : Nat), z.natAbs < 10000 ^ 16 ∧ q ≤ p + 10 ∧ Ev (fun k => F147c9 k bs (p : Int) b l s) (((decide (z < 0), digs z.natAbs, ()), ()), ((bs, (q : Int), ()), (), ())) := by
  obtain ⟨v, _, h1⟩ := pick_ev hb (show p ≤ 1000000000 by omega) 3
  obtain ⟨N, hN, h2⟩ := ff_ev hs (by omega)
  obtain ⟨z, ok, hz, h3⟩ := l1Big_any (v == 0) N hN
  refine ⟨z, p + 1, hz, by omega, Ev.step 1 (fun k => F147c9_eq k _ _ _ _ _) (Ev.bind h1 (Ev.bind h2 (Ev.bind h3 (Ev.now _))))⟩
theorem bigC7 {p : Nat} (hp : p + 20 ≤ 1000000) {b : Bool} {l : List Int} {n : Int} (h0 : 0 ≤ n) (hn : n ≤ 64) {s : ByteArray} (hs : Fig s) (h64 : s.size ≤ 64) : ∃ (z : Int) (q : Nat), z.natAbs < 10000 ^ 16 ∧ q ≤ p + 20 ∧ Ev (fun k => F147c7 k bs (p : Int) b l n s) (((decide (z < 0), digs z.natAbs, ()), ()), ((bs, (q : Int), ()), (), ())) := by
  obtain ⟨v, _, h1⟩ := pick_ev hb (show p ≤ 1000000000 by omega) 6
  cases hv : (v == (0 : Int)) with
  | true =>
    obtain ⟨t, ht, ht2, h2⟩ := l1Many_ev (a := ⟨#[57]⟩) (fig1 (d := 9) (by omega)) rfl (n := n) (by omega) (by omega)
    obtain ⟨z, q, hz, hq, h3⟩ := bigC9 (p := p + 1) hb (by omega) (b := b) (l := l) ht (by omega)
    refine ⟨z, q, hz, by omega, Ev.step 1 (fun k => F147c7_eq k _ _ _ _ _ _) (Ev.bind h1 ?_)⟩
    simp only [hv, if_true]
    exact Ev.bind h2 h3
  | false =>
    obtain ⟨z, q, hz, hq, h3⟩ := bigC9 (p := p + 1) hb (by omega) (b := b) (l := l) hs h64
    refine ⟨z, q, hz, by omega, Ev.step 1 (fun k => F147c7_eq k _ _ _ _ _ _) (Ev.bind h1 ?_)⟩
    simp only [hv, Bool.false_eq_true, if_false]
    exact h3
theorem bigC4 {p : Nat} (hp : p + 300 ≤ 1000000) {b : Bool} {l : List Int} {n : Int} (h0 : 0 ≤ n) (hn : n ≤ 64) : ∃ (z : Int) (q : Nat), z.natAbs < 10000 ^ 16 ∧ q ≤ p + 300 ∧ Ev (fun k => F147c4 k bs (p : Int) b l n) (((decide (z < 0), digs z.natAbs, ()), ()), ((bs, (q : Int), ()), (), ())) := by
  obtain ⟨t, q, hq, ht, ht64, h1⟩ := figs_ev hb h0 hn (p := p) (by omega)
  obtain ⟨v, _, h2⟩ := pick_ev hb (show q ≤ 1000000000 by omega) 6
  cases hv : (v == (0 : Int)) with
  | true =>
    have e : IntKind.i64.wrap (n - 1) = n - 1 := wrap64 (by omega) (by omega)
    obtain ⟨u, hu, hu2, h3⟩ := l1Many_ev (a := ⟨#[48]⟩) (fig1 (d := 0) (by omega)) rfl (n := n - 1) (by omega) (by omega)
    have hsz : ((⟨#[49]⟩ : ByteArray) ++ u).size = 1 + u.size := by rw [size_app]; rfl
    obtain ⟨z, q2, hz, hq2, h4⟩ := bigC7 (p := q + 1) hb (by omega) (b := b) (l := l) h0 hn (s := (⟨#[49]⟩ : ByteArray) ++ u) (Fig.app (fig1 (d := 1) (by omega)) hu) (by rw [hsz]; omega)
    refine ⟨z, q2, hz, by omega, Ev.step 1 (fun k => F147c4_eq k _ _ _ _ _) (Ev.bind h1 (Ev.bind h2 ?_))⟩
    have hble : Nat.ble ((⟨#[49]⟩ : ByteArray).size + u.size) 9223372036854775807 = true := Nat.ble_eq_true_of_le (by show 1 + u.size ≤ _; omega)
    simp only [hv, if_true, e]
    refine Ev.bind h3 ?_
    simp only [hble, if_true]
    exact h4
  | false =>
    obtain ⟨z, q2, hz, hq2, h4⟩ := bigC7 (p := q + 1) hb (by omega) (b := b) (l := l) h0 hn ht ht64
    refine ⟨z, q2, hz, by omega, Ev.step 1 (fun k => F147c4_eq k _ _ _ _ _) (Ev.bind h1 (Ev.bind h2 ?_))⟩
    simp only [hv, Bool.false_eq_true, if_false]
    exact h4
theorem l14Big_ev {p : Nat} (hp : p + 400 ≤ 1000000) {most : Int} (hm : 1 ≤ most) (hm2 : most ≤ 64) : ∃ (z : Int) (q : Nat), z.natAbs < 10000 ^ 16 ∧ q ≤ p + 400 ∧ Ev (fun k => F147 k bs (p : Int) most) (((decide (z < 0), digs z.natAbs, ()), ()), ((bs, (q : Int), ()), (), ())) := by
  obtain ⟨v, ⟨a0, a1, _⟩, h1⟩ := pick_ev hb (show p ≤ 1000000000 by omega) 64
  have a1 := a1 (by omega)
  have e1 : IntKind.i64.wrap (1 + v) = 1 + v := wrap64 (by omega) (by omega)
  obtain ⟨n, hn, h2⟩ := one_ev hb (show p + 1 ≤ 1000000000 by omega) [0, 1, 1, 2, 3, 4, 5, 8, 9, 12, 17, 29, 30, 31, 33, 63, 64, 1 + v] (by simp)
  have hn2 : 0 ≤ n ∧ n ≤ 64 := by
    simp only [List.mem_cons, List.not_mem_nil, or_false] at hn
    omega
  by_cases hg : n > most
  · obtain ⟨u, ⟨b0, b1, _⟩, h3⟩ := pick_ev hb (show p + 1 + 1 ≤ 1000000000 by omega) most
    have b1 := b1 hm
    have e2 : IntKind.i64.wrap (1 + u) = 1 + u := wrap64 (by omega) (by omega)
    obtain ⟨z, q, hz, hq, h4⟩ := bigC4 (p := p + 1 + 1 + 1) hb (by omega) (b := false) (l := []) (n := 1 + u) (by omega) (by omega)
    refine ⟨z, q, hz, by omega, Ev.step 2 (fun k => F147_eq k _ _ _) (Ev.bind h1 ?_)⟩
    simp only [e1]
    refine Ev.bind h2 ?_
    simp only [decide_eq_true hg, if_true]
    refine Ev.bind h3 ?_
    simp only [e2]
    exact h4
  · obtain ⟨z, q, hz, hq, h4⟩ := bigC4 (p := p + 1 + 1) hb (by omega) (b := false) (l := []) (n := n) (by omega) (by omega)
    refine ⟨z, q, hz, by omega, Ev.step 2 (fun k => F147_eq k _ _ _) (Ev.bind h1 ?_)⟩
    simp only [e1]
    refine Ev.bind h2 ?_
    simp only [decide_eq_false hg, Bool.false_eq_true, if_false]
    exact h4
end
end Go.Proofs.YtiojgdjpigcgaaaGreatDoor.R
end

section
/-! Rf: what the laws draw: decimals. -/
set_option autoImplicit false
set_option linter.unusedSimpArgs false
set_option linter.unusedVariables false
namespace Go.Proofs.YtiojgdjpigcgaaaGreatDoor.R
open Go.Rf
theorem Rd.of {code : List Int} (h : code.length ≤ 2000) (w : ∀ y ∈ code, 0 ≤ y ∧ y ≤ 255) : Rd code := ⟨h, w⟩
theorem open_ev (code : List Int) (w : ∀ y ∈ code, 0 ≤ y ∧ y ≤ 255) : ∃ bs, Rd bs ∧ Ev (fun k => F49 k code) (((bs, 0, ()), ()), ((), ())) := by
  by_cases h : code.length > 2000
  · refine ⟨code.take 2000, ⟨by simp; omega, fun y hy => w y (List.mem_of_mem_take hy)⟩, Ev.step 2 (fun k => F49_eq k _) ?_⟩
    simp only [decide_eq_true (show (code.length : Int) > 2000 by omega), if_true, show decide ((0 : Int) ≤ 2000) = true from rfl, decide_eq_true (show (2000 : Int) ≤ code.length by omega), Bool.and_self, slices0]
    exact Ev.step 1 (fun k => F49c3_eq k _) (Ev.now _)
  · refine ⟨code, ⟨by omega, w⟩, Ev.step 2 (fun k => F49_eq k _) ?_⟩
    simp only [decide_eq_false (show ¬ (code.length : Int) > 2000 by omega), Bool.false_eq_true, if_false]
    exact Ev.step 1 (fun k => F49c3_eq k _) (Ev.now _)
theorem z16 {z : Int} (h : z.natAbs < 10000 ^ 16) : (digs z.natAbs).length ≤ 16 := digs_len_le h
theorem anyC10 {bs : List Int} {p : Nat} {b1 b2 : Bool} {l1 : List Int} : ∀ (m : Nat) (l : List Int), l.length + m = max 17 l.length → l.length ≤ 17 → ∃ l' : List Int, l'.length ≤ 20 ∧ Ev (fun k => F148c10 k bs (p : Int) b1 l1 b2 l) (((b2, l', ()), ()), ((bs, (p : Int), ()), ())) := by
  intro m
  induction m with
  | zero =>
    intro l hm h17
    refine ⟨l, by omega, Ev.step 1 (fun k => F148c10_eq k _ _ _ _ _ _) ?_⟩
    simp only [decide_eq_false (show ¬ (l.length : Int) < 17 by omega), Bool.false_eq_true, if_false]
    exact Ev.step 1 (fun k => F148c12_eq k _ _ _ _ _ _) (Ev.now _)
  | succ m ih =>
    intro l hm h17
    have hl : (l ++ [(1 : Int)]).length = l.length + 1 := by simp
    obtain ⟨l', h1, h2⟩ := ih (l ++ [1]) (by omega) (by omega)
    refine ⟨l', h1, Ev.step 1 (fun k => F148c10_eq k _ _ _ _ _ _) ?_⟩
    simp only [decide_eq_true (show (l.length : Int) < 17 by omega), if_true, decide_eq_true (show l.length + [(1 : Int)].length ≤ 17592186044416 by simp; omega)]
    exact h2
section
variable {bs : List Int} (hb : Rd bs)
include hb
theorem anyBig_ev {p : Nat} (hp : p + 500 ≤ 1000000) : ∃ (n : Bool) (l : List Int) (q : Nat), l.length ≤ 100 ∧ q ≤ p + 500 ∧ Ev (fun k => F148 k bs (p : Int)) (((n, l, ()), ()), ((bs, (q : Int), ()), ())) := by
  obtain ⟨z, q, hz, hq, h1⟩ := l14Big_ev hb (p := p) (by omega) (most := 64) (by omega) (by omega)
  have hz := z16 hz
  obtain ⟨v, ⟨a0, a1, _⟩, h2⟩ := pick_ev hb (show q ≤ 1000000000 by omega) 30
  have st : ∀ {r}, Ev (fun k => if (v == (0 : Int)) = true then if (decide ((digs z.natAbs).length + [(0 : Int)].length ≤ 17592186044416)) = true then F148c12 k bs ((q + 1 : Nat) : Int) false ([] : List Int) (decide (z < 0)) (digs z.natAbs ++ [(0 : Int)]) else none else if (v == (1 : Int)) = true then (F54 k bs ((q + 1 : Nat) : Int) [(10000 : Int), (-1 : Int)]).bind fun r3 => if (decide ((digs z.natAbs).length + [r3.1.1].length ≤ 17592186044416)) = true then F148c12 k r3.2.1.1 r3.2.1.2.1 false ([] : List Int) (decide (z < 0)) (digs z.natAbs ++ [r3.1.1]) else none else if (v == (2 : Int)) = true then some (((true, ([] : List Int), ()), ()), ((bs, ((q + 1 : Nat) : Int), ()), ())) else if (v == (3 : Int)) = true then F148c10 k bs ((q + 1 : Nat) : Int) false ([] : List Int) (decide (z < 0)) (digs z.natAbs) else F148c12 k bs ((q + 1 : Nat) : Int) false ([] : List Int) (decide (z < 0)) (digs z.natAbs)) r → Ev (fun k => F148 k bs (p : Int)) r := fun h => Ev.step 2 (fun k => F148_eq k _ _) (Ev.bind h1 (Ev.bind h2 h))
  have c12 : ∀ {q' : Nat} {l : List Int}, Ev (fun k => F148c12 k bs (q' : Int) false ([] : List Int) (decide (z < 0)) l) (((decide (z < 0), l, ()), ()), ((bs, (q' : Int), ()), ())) := fun {q' l} => Ev.step 1 (fun k => F148c12_eq k _ _ _ _ _ _) (Ev.now _)
  cases c0 : (v == (0 : Int)) with
  | true =>
    refine ⟨decide (z < 0), digs z.natAbs ++ [0], q + 1, by simp; omega, by omega, st ?_⟩
    simp only [c0, if_true, decide_eq_true (show (digs z.natAbs).length + [(0 : Int)].length ≤ 17592186044416 by simp; omega)]
    exact c12
  | false =>
    cases c1 : (v == (1 : Int)) with
    | true =>
      obtain ⟨u, _, h3⟩ := one_ev hb (show q + 1 ≤ 1000000000 by omega) [10000, -1] (by simp)
      refine ⟨decide (z < 0), digs z.natAbs ++ [u], q + 1 + 1, by simp; omega, by omega, st ?_⟩
      simp only [c0, c1, Bool.false_eq_true, if_false, if_true]
      refine Ev.bind h3 ?_
      simp only [decide_eq_true (show (digs z.natAbs).length + [u].length ≤ 17592186044416 by simp; omega), if_true]
      exact c12
    | false =>
      cases c2 : (v == (2 : Int)) with
      | true =>
        refine ⟨true, [], q + 1, by simp, by omega, st ?_⟩
        simp only [c0, c1, c2, Bool.false_eq_true, if_false, if_true]
        exact Ev.now _
      | false =>
        cases c3 : (v == (3 : Int)) with
        | true =>
          obtain ⟨l', hl', h3⟩ := anyC10 (bs := bs) (p := q + 1) (b1 := false) (b2 := decide (z < 0)) (l1 := []) (17 - (digs z.natAbs).length) (digs z.natAbs) (by omega) (by omega)
          refine ⟨decide (z < 0), l', q + 1, by omega, by omega, st ?_⟩
          simp only [c0, c1, c2, c3, Bool.false_eq_true, if_false, if_true]
          exact h3
        | false =>
          refine ⟨decide (z < 0), digs z.natAbs, q + 1, by omega, by omega, st ?_⟩
          simp only [c0, c1, c2, c3, Bool.false_eq_true, if_false]
          exact c12
/-- a decimal in order, but for its figures -/
theorem l14Dec_ev {p : Nat} (hp : p + 600 ≤ 1000000) : ∃ (z : Int) (s q : Nat), z.natAbs < 10000 ^ 16 ∧ s ≤ 12 ∧ q ≤ p + 600 ∧ Ev (fun k => F112 k bs (p : Int)) (((decide (z < 0), digs z.natAbs, (s : Int), ()), ()), ((bs, (q : Int), ()), ())) := by
  obtain ⟨v, ⟨a0, a1, _⟩, h1⟩ := pick_ev hb (show p ≤ 1000000000 by omega) 13
  have a1 := a1 (by omega)
  obtain ⟨s, hs, h2⟩ := one_ev hb (show p + 1 ≤ 1000000000 by omega) [0, 0, 1, 2, 2, 3, 6, 12, v] (by simp)
  have hs2 : 0 ≤ s ∧ s ≤ 12 := by
    simp only [List.mem_cons, List.not_mem_nil, or_false] at hs
    omega
  obtain ⟨t, rfl⟩ : ∃ t : Nat, s = (t : Int) := ⟨s.toNat, by omega⟩
  obtain ⟨u, ⟨b0, b1, _⟩, h3⟩ := pick_ev hb (show p + 1 + 1 ≤ 1000000000 by omega) 5
  have h16 : (10000 : Nat) ^ 4 ≤ 10000 ^ 16 := Nat.pow_le_pow_right (by omega) (by omega)
  have h44 : (10000 : Nat) ^ 4 = 10000000000000000 := by decide
  cases c0 : (u == (0 : Int)) with
  | true =>
    obtain ⟨x, ⟨d0, d1, _⟩, h4⟩ := pick_ev hb (show p + 1 + 1 + 1 ≤ 1000000000 by omega) 200
    have d1 := d1 (by omega)
    have e : IntKind.i64.wrap (x - 100) = x - 100 := wrap64 (by omega) (by omega)
    have h5 := BigOf_sp (n := x - 100) (by omega)
    refine ⟨x - 100, t, p + 1 + 1 + 1 + 1, by omega, by omega, by omega, Ev.step 2 (fun k => F112_eq k _ _) (Ev.bind h1 (Ev.bind h2 (Ev.bind h3 ?_)))⟩
    simp only [c0, if_true]
    refine Ev.bind h4 ?_
    simp only [e]
    exact Ev.bind h5 (Ev.now _)
  | false =>
    cases c1 : (u == (1 : Int)) with
    | true =>
      obtain ⟨x, hx, h4⟩ := one_ev hb (show p + 1 + 1 + 1 ≤ 1000000000 by omega) [5, 15, 25, 35, 45, -5, -15, -25, 50, 150, 250, 499, 500, 501, -500, 1500, 2500, -2500, 1000, 20] (by simp)
      have hx2 : -2500 ≤ x ∧ x ≤ 2500 := by
        simp only [List.mem_cons, List.not_mem_nil, or_false] at hx
        omega
      have h5 := BigOf_sp (n := x) (by omega)
      refine ⟨x, t, p + 1 + 1 + 1 + 1, by omega, by omega, by omega, Ev.step 2 (fun k => F112_eq k _ _) (Ev.bind h1 (Ev.bind h2 (Ev.bind h3 ?_)))⟩
      simp only [c0, c1, Bool.false_eq_true, if_false, if_true]
      exact Ev.bind h4 (Ev.bind h5 (Ev.now _))
    | false =>
      cases c2 : (u == (2 : Int)) with
      | true =>
        obtain ⟨z, q, hz, hq, h4⟩ := l14Big_ev hb (p := p + 1 + 1 + 1) (by omega) (most := 8) (by omega) (by omega)
        refine ⟨z, t, q, hz, by omega, by omega, Ev.step 2 (fun k => F112_eq k _ _) (Ev.bind h1 (Ev.bind h2 (Ev.bind h3 ?_)))⟩
        simp only [c0, c1, c2, Bool.false_eq_true, if_false, if_true]
        exact Ev.bind h4 (Ev.now _)
      | false =>
        obtain ⟨z, q, hz, hq, h4⟩ := l14Big_ev hb (p := p + 1 + 1 + 1) (by omega) (most := 30) (by omega) (by omega)
        refine ⟨z, t, q, hz, by omega, by omega, Ev.step 2 (fun k => F112_eq k _ _) (Ev.bind h1 (Ev.bind h2 (Ev.bind h3 ?_)))⟩
        simp only [c0, c1, c2, Bool.false_eq_true, if_false]
        exact Ev.bind h4 (Ev.now _)
theorem anyDec_ev {p : Nat} (hp : p + 1300 ≤ 1000000) : ∃ (n : Bool) (l : List Int) (s : Int) (q : Nat), l.length ≤ 100 ∧ q ≤ p + 1300 ∧ Ev (fun k => F102 k bs (p : Int)) (((n, l, s, ()), ()), ((bs, (q : Int), ()), ())) := by
  obtain ⟨z, s, q, hz, hs, hq, h1⟩ := l14Dec_ev hb (p := p) (by omega)
  have hz16 := z16 hz
  obtain ⟨v, _, h2⟩ := pick_ev hb (show q ≤ 1000000000 by omega) 30
  have c9 : ∀ {q' : Nat} {n : Bool} {l : List Int} {s : Int}, Ev (fun k => F102c9 k bs (q' : Int) false ([] : List Int) (0 : Int) n l s) (((n, l, s, ()), ()), ((bs, (q' : Int), ()), ())) := fun {q' n l s} => Ev.step 1 (fun k => F102c9_eq k _ _ _ _ _ _ _ _) (Ev.now _)
  cases c0 : (v == (0 : Int)) with
  | true =>
    obtain ⟨u, _, h3⟩ := one_ev hb (show q + 1 ≤ 1000000000 by omega) [-1, 13, 4611686018427387904] (by simp)
    refine ⟨decide (z < 0), digs z.natAbs, u, q + 1 + 1, by omega, by omega, Ev.step 2 (fun k => F102_eq k _ _) (Ev.bind h1 (Ev.bind h2 ?_))⟩
    simp only [c0, if_true]
    exact Ev.bind h3 c9
  | false =>
    cases c1 : (v == (1 : Int)) with
    | true =>
      obtain ⟨y, q2, hy, hq2, h3⟩ := l14Big_ev hb (p := q + 1) (by omega) (most := 31) (by omega) (by omega)
      have hy := z16 hy
      refine ⟨decide (y < 0), digs y.natAbs, (s : Int), q2, by omega, by omega, Ev.step 2 (fun k => F102_eq k _ _) (Ev.bind h1 (Ev.bind h2 ?_))⟩
      simp only [c0, c1, Bool.false_eq_true, if_false, if_true]
      exact Ev.bind h3 c9
    | false =>
      cases c2 : (v == (2 : Int)) with
      | true =>
        obtain ⟨n, l, q2, hl, hq2, h3⟩ := anyBig_ev hb (p := q + 1) (by omega)
        refine ⟨n, l, (s : Int), q2, by omega, by omega, Ev.step 2 (fun k => F102_eq k _ _) (Ev.bind h1 (Ev.bind h2 ?_))⟩
        simp only [c0, c1, c2, Bool.false_eq_true, if_false, if_true]
        exact Ev.bind h3 c9
      | false =>
        refine ⟨decide (z < 0), digs z.natAbs, (s : Int), q + 1, by omega, by omega, Ev.step 2 (fun k => F102_eq k _ _) (Ev.bind h1 (Ev.bind h2 ?_))⟩
        simp only [c0, c1, c2, Bool.false_eq_true, if_false]
        exact c9
end
theorem trim_sp {n : Bool} {l : List Int} {s0 : Int} : ∀ (s V : Nat), s ≤ 12 → (digs V).length ≤ 16 → ((digs (trimN V s).1).length ≤ 16 ∧
    Ev (fun k => F191c3 k n l s0 false ([] : List Int) (0 : Int) (digs V) (s : Int)) (((n, digs (trimN V s).1, ((trimN V s).2 : Int), ()), ()), (((), (), (), ()), ()))) := by
  have ht : ∀ {V : Nat}, (digs V).length ≤ 16 → Ev (fun k => F224 k (digs V)) ((digs V, ()), ((), ())) := fun {V} h => by
    have := l1Trim_ev (digs_InR V) (by omega)
    rwa [VI_digs, Int.toNat_natCast] at this
  intro s
  induction s with
  | zero =>
    intro V _ hl
    refine ⟨hl, Ev.step 1 (fun k => F191c3_eq k _ _ _ _ _ _ _ _) ?_⟩
    simp only [show decide (((0 : Nat) : Int) > 0) = false from by decide, Bool.false_eq_true, if_false]
    exact Ev.bind (ht hl) (Ev.now _)
  | succ s ih =>
    intro V hs hl
    have c : decide (((s + 1 : Nat) : Int) > 0) = true := decide_eq_true (by omega)
    have d2 := l1DivAbs_ev (digs_InR V) (b := [10]) (InR.one (by omega)) (by omega) (by simp) (VI_digs V) (B := 10) (VI_one 10) (by omega)
    have e1 : IntKind.i64.wrap (((s + 1 : Nat) : Int) - 1) = (s : Int) := by rw [wrap64 (by omega) (by omega)]; omega
    by_cases h : V % 10 = 0
    · obtain ⟨i1, i3⟩ := ih (V / 10) (by omega) (div10_len hl)
      have et : trimN V (s + 1) = trimN (V / 10) s := by rw [trimN, if_pos h]
      rw [et]
      refine ⟨i1, Ev.step 1 (fun k => F191c3_eq k _ _ _ _ _ _ _ _) ?_⟩
      simp only [c, if_true]
      refine Ev.bind d2 ?_
      simp only [len_gt, h, ne_eq, not_true_eq_false, decide_false, Bool.false_eq_true, if_false, e1]
      exact i3
    · have et : trimN V (s + 1) = (V, s + 1) := by rw [trimN, if_neg h]
      rw [et]
      refine ⟨hl, Ev.step 1 (fun k => F191c3_eq k _ _ _ _ _ _ _ _) ?_⟩
      simp only [c, if_true]
      refine Ev.bind d2 ?_
      simp only [len_gt, h, ne_eq, not_false_eq_true, decide_true, if_true]
      exact Ev.bind (ht hl) (Ev.now _)
end Go.Proofs.YtiojgdjpigcgaaaGreatDoor.R
end

section
/-! Rf: what the laws draw: values. -/
set_option autoImplicit false
set_option linter.unusedSimpArgs false
set_option linter.unusedVariables false
namespace Go.Proofs.YtiojgdjpigcgaaaGreatDoor.R
open Go.Rf
theorem leap_ev (a : Int) : ∃ b : Bool, Ev (fun k => F226 k a) ((b, ()), ((), ())) := by
  by_cases h1 : a.tmod 4 = 0
  · by_cases h2 : a.tmod 100 = 0
    · refine ⟨a.tmod 400 == 0, Ev.step 2 (fun k => F226_eq k _) ?_⟩
      simp only [h1, h2, beq_self_eq_true, bne_self_eq_false, Bool.false_eq_true, if_true, if_false]
      exact Ev.now _
    · refine ⟨true, Ev.step 2 (fun k => F226_eq k _) ?_⟩
      simp only [h1, bne_iff_ne.2 h2, beq_self_eq_true, if_true]
      exact Ev.now _
  · refine ⟨a.tmod 400 == 0, Ev.step 2 (fun k => F226_eq k _) ?_⟩
    simp only [beq_eq_false_iff_ne.2 h1, Bool.false_eq_true, if_false]
    exact Ev.now _
theorem last_ev (y m : Int) : ∃ v : Int, Ev (fun k => F194 k y m) ((v, ()), ((), (), ())) := by
  by_cases h2 : m = 2
  · obtain ⟨b, hb⟩ := leap_ev y
    refine ⟨if b = true then 29 else 28, Ev.step 2 (fun k => F194_eq k _ _) ?_⟩
    simp only [h2, beq_self_eq_true, if_true]
    refine Ev.bind hb ?_
    cases b
    · simp only [Bool.false_eq_true, if_false]; exact Ev.now _
    · simp only [if_true]; exact Ev.now _
  have g2 := beq_eq_false_iff_ne.2 h2
  by_cases h : m = 4 ∨ m = 6 ∨ m = 9 ∨ m = 11
  · refine ⟨30, Ev.step 2 (fun k => F194_eq k _ _) ?_⟩
    rcases h with rfl | rfl | rfl | rfl
    · exact Ev.now _
    · exact Ev.now _
    · exact Ev.now _
    · exact Ev.now _
  · refine ⟨31, Ev.step 2 (fun k => F194_eq k _ _) ?_⟩
    simp only [g2, beq_eq_false_iff_ne.2 (show m ≠ 4 by omega), beq_eq_false_iff_ne.2 (show m ≠ 6 by omega), beq_eq_false_iff_ne.2 (show m ≠ 9 by omega), beq_eq_false_iff_ne.2 (show m ≠ 11 by omega), Bool.false_eq_true, if_false]
    exact Ev.step 1 (fun k => F194c11_eq k) (Ev.now _)
theorem ofC {y m : Int} (hm : m ≤ 100) : ∀ (n : Nat) (i x : Int), m ≤ i + n → 1 ≤ i → i ≤ 100 → ∃ v : Int, Ev (fun k => F154c3 k y m x i) ((v, ()), ((), (), (), ()))
  | 0, i, x, h, _, _ => by
    refine ⟨x, Ev.step 1 (fun k => F154c3_eq k _ _ _ _) ?_⟩
    simp only [decide_eq_false (show ¬ i < m by omega), Bool.false_eq_true, if_false]
    exact Ev.now _
  | n + 1, i, x, h, h1, h2 => by
    by_cases hi : i < m
    · obtain ⟨u, hu⟩ := last_ev y i
      obtain ⟨v, hv⟩ := ofC hm n (i + 1) (IntKind.i64.wrap (x + u)) (by omega) (by omega) (by omega)
      refine ⟨v, Ev.step 1 (fun k => F154c3_eq k _ _ _ _) ?_⟩
      simp only [decide_eq_true hi, if_true, wrap64 (show -9223372036854775808 ≤ i + 1 by omega) (by omega)]
      exact Ev.bind hu hv
    · refine ⟨x, Ev.step 1 (fun k => F154c3_eq k _ _ _ _) ?_⟩
      simp only [decide_eq_false hi, Bool.false_eq_true, if_false]
      exact Ev.now _
theorem l3Of_ev (y m d : Int) (hm : m ≤ 100) : ∃ v : Int, Ev (fun k => F154 k y m d) ((v, ()), ((), (), (), ())) := by
  have hb : ∃ u : Int, Ev (fun k => F193 k y) ((u, ()), ((), ())) := ⟨_, Ev.step 2 (fun k => F193_eq k _) (Ev.now _)⟩
  obtain ⟨u, hu⟩ := hb
  obtain ⟨v, hv⟩ := ofC (y := y) (m := m) hm 200 1 (IntKind.i64.wrap (u + d)) (by omega) (by omega) (by omega)
  exact ⟨v, Ev.step 2 (fun k => F154_eq k _ _ _) (Ev.bind hu hv)⟩
section
variable {bs : List Int} (hb : Rd bs)
include hb
theorem of_ev {p : Nat} (hp : p ≤ 1000000000) (l : List ByteArray) (hl : 0 < l.length) (hl2 : l.length ≤ 1000) : ∃ v ∈ l, Ev (fun k => F101 k bs (p : Int) l) ((v, ()), ((bs, ((p + 1 : Nat) : Int), ()), (), ())) := by
  obtain ⟨v, ⟨h0, h1, _⟩, h2⟩ := pick_ev hb hp (l.length : Int)
  have h1 := h1 (by omega)
  obtain ⟨y, hy⟩ : ∃ y, l[v.toNat]? = some y := ⟨_, List.getElem?_eq_getElem (by omega)⟩
  refine ⟨y, List.mem_of_getElem? hy, Ev.step 2 (fun k => F101_eq k _ _ _) (Ev.bind h2 ?_)⟩
  simp only [decide_eq_true h0, decide_eq_true h1, Bool.and_self, if_true, hy, Option.bind_some]
  exact Ev.now _
theorem day_ev {p : Nat} (hp : p + 10 ≤ 1000000) : ∃ (v : Int) (q : Nat), q ≤ p + 10 ∧ Ev (fun k => F113 k bs (p : Int)) ((v, ()), ((bs, (q : Int), ()), ())) := by
  obtain ⟨v, ⟨v0, v1, _⟩, h1⟩ := pick_ev hb (show p ≤ 1000000000 by omega) 6
  by_cases c0 : v = 0
  · obtain ⟨u, _, h2⟩ := one_ev hb (show p + 1 ≤ 1000000000 by omega) [1, 2, 31, 59, 60, 3652059, 3652058, 366] (by simp)
    refine ⟨u, p + 1 + 1, by omega, Ev.step 2 (fun k => F113_eq k _ _) (Ev.bind h1 ?_)⟩
    simp only [c0, beq_self_eq_true, if_true]
    exact Ev.bind h2 (Ev.now _)
  by_cases c1 : v = 1
  · obtain ⟨u, _, h2⟩ := one_ev hb (show p + 1 ≤ 1000000000 by omega) [4, 1900, 2000, 2023, 2024, 2100, 9999] (by simp)
    obtain ⟨u2, hu2, h3⟩ := one_ev hb (show p + 1 + 1 ≤ 1000000000 by omega) [1, 2, 2, 3, 12] (by simp)
    obtain ⟨w, h4⟩ := l3Of_ev u u2 28 (by simp at hu2; omega)
    refine ⟨w, p + 1 + 1 + 1, by omega, Ev.step 2 (fun k => F113_eq k _ _) (Ev.bind h1 ?_)⟩
    simp only [c1, show ((1 : Int) == 0) = false from rfl, beq_self_eq_true, Bool.false_eq_true, if_false, if_true]
    exact Ev.bind h2 (Ev.bind h3 (Ev.bind h4 (Ev.now _)))
  by_cases c2 : v = 2
  · obtain ⟨u, _, h2⟩ := one_ev hb (show p + 1 ≤ 1000000000 by omega) [4, 2000, 2024, 9996] (by simp)
    obtain ⟨w, h4⟩ := l3Of_ev u 2 29 (by omega)
    refine ⟨w, p + 1 + 1, by omega, Ev.step 2 (fun k => F113_eq k _ _) (Ev.bind h1 ?_)⟩
    simp only [c2, show ((2 : Int) == 0) = false from rfl, show ((2 : Int) == 1) = false from rfl, beq_self_eq_true, Bool.false_eq_true, if_false, if_true]
    exact Ev.bind h2 (Ev.bind h4 (Ev.now _))
  by_cases c3 : v = 3
  · obtain ⟨u, _, h2⟩ := one_ev hb (show p + 1 ≤ 1000000000 by omega) [1, 2023, 2024, 9999] (by simp)
    obtain ⟨u2, hu2, h3⟩ := one_ev hb (show p + 1 + 1 ≤ 1000000000 by omega) [1, 3, 5, 8, 10, 12] (by simp)
    obtain ⟨w, h4⟩ := l3Of_ev u u2 31 (by simp at hu2; omega)
    refine ⟨w, p + 1 + 1 + 1, by omega, Ev.step 2 (fun k => F113_eq k _ _) (Ev.bind h1 ?_)⟩
    simp only [c3, show ((3 : Int) == 0) = false from rfl, show ((3 : Int) == 1) = false from rfl, show ((3 : Int) == 2) = false from rfl, beq_self_eq_true, Bool.false_eq_true, if_false, if_true]
    exact Ev.bind h2 (Ev.bind h3 (Ev.bind h4 (Ev.now _)))
  · obtain ⟨u, ⟨u0, u1, _⟩, h2⟩ := pick_ev hb (show p + 1 ≤ 1000000000 by omega) 8
    obtain ⟨u', ⟨u0', u1', _⟩, h3⟩ := pick_ev hb (show p + 1 + 1 ≤ 1000000000 by omega) 12
    obtain ⟨w, _, h4⟩ := pick_ev hb (show p + 1 + 1 + 1 ≤ 1000000000 by omega) 28
    have u1' := u1' (by omega)
    obtain ⟨d, h5⟩ := l3Of_ev (IntKind.i64.wrap (2020 + u)) (IntKind.i64.wrap (1 + u')) (IntKind.i64.wrap (1 + w)) (by rw [wrap64 (by omega) (by omega)]; omega)
    refine ⟨d, p + 1 + 1 + 1 + 1, by omega, Ev.step 2 (fun k => F113_eq k _ _) (Ev.bind h1 ?_)⟩
    simp only [beq_eq_false_iff_ne.2 c0, beq_eq_false_iff_ne.2 c1, beq_eq_false_iff_ne.2 c2, beq_eq_false_iff_ne.2 c3, Bool.false_eq_true, if_false]
    exact Ev.bind h2 (Ev.bind h3 (Ev.bind h4 (Ev.bind h5 (Ev.now _))))
theorem span_ev {p : Nat} (hp : p + 10 ≤ 1000000) : ∃ (m d : Int) (q : Nat), q ≤ p + 10 ∧ Ev (fun k => F114 k bs (p : Int)) (((m, d, ()), ()), ((bs, (q : Int), ()), ())) := by
  obtain ⟨v, ⟨v0, v1, _⟩, h1⟩ := pick_ev hb (show p ≤ 1000000000 by omega) 5
  by_cases c0 : v = 0
  · obtain ⟨u, _, h2⟩ := one_ev hb (show p + 1 ≤ 1000000000 by omega) [0, 120000, -120000, 119987, -119988] (by simp)
    obtain ⟨u2, _, h3⟩ := one_ev hb (show p + 1 + 1 ≤ 1000000000 by omega) [0, 4000000, -4000000] (by simp)
    refine ⟨u, u2, p + 1 + 1 + 1, by omega, Ev.step 2 (fun k => F114_eq k _ _) (Ev.bind h1 ?_)⟩
    simp only [c0, beq_self_eq_true, if_true]
    exact Ev.bind h2 (Ev.bind h3 (Ev.now _))
  by_cases c1 : v = 1
  · obtain ⟨u, _, h2⟩ := pick_ev hb (show p + 1 ≤ 1000000000 by omega) 30
    refine ⟨IntKind.i64.wrap (u - 15), 0, p + 1 + 1, by omega, Ev.step 2 (fun k => F114_eq k _ _) (Ev.bind h1 ?_)⟩
    simp only [c1, show ((1 : Int) == 0) = false from rfl, beq_self_eq_true, Bool.false_eq_true, if_false, if_true]
    exact Ev.bind h2 (Ev.now _)
  by_cases c2 : v = 2
  · obtain ⟨u, _, h2⟩ := pick_ev hb (show p + 1 ≤ 1000000000 by omega) 80
    refine ⟨0, IntKind.i64.wrap (u - 40), p + 1 + 1, by omega, Ev.step 2 (fun k => F114_eq k _ _) (Ev.bind h1 ?_)⟩
    simp only [c2, show ((2 : Int) == 0) = false from rfl, show ((2 : Int) == 1) = false from rfl, beq_self_eq_true, Bool.false_eq_true, if_false, if_true]
    exact Ev.bind h2 (Ev.now _)
  · obtain ⟨u, _, h2⟩ := pick_ev hb (show p + 1 ≤ 1000000000 by omega) 60
    obtain ⟨u2, _, h3⟩ := pick_ev hb (show p + 1 + 1 ≤ 1000000000 by omega) 60
    refine ⟨IntKind.i64.wrap (u - 30), IntKind.i64.wrap (u2 - 30), p + 1 + 1 + 1, by omega, Ev.step 2 (fun k => F114_eq k _ _) (Ev.bind h1 ?_)⟩
    simp only [beq_eq_false_iff_ne.2 c0, beq_eq_false_iff_ne.2 c1, beq_eq_false_iff_ne.2 c2, Bool.false_eq_true, if_false]
    exact Ev.bind h2 (Ev.bind h3 (Ev.now _))
theorem word_ev {p : Nat} (hp : p + 10 ≤ 1000000) : ∃ t : ByteArray, t.size ≤ 100 ∧ Ev (fun k => F115 k bs (p : Int)) ((t, ()), ((bs, ((p + 1 : Nat) : Int), ()), ())) := by
  obtain ⟨t, ht, h1⟩ := of_ev hb (show p ≤ 1000000000 by omega) [(⟨#[]⟩ : ByteArray), (⟨#[97]⟩ : ByteArray), (⟨#[98]⟩ : ByteArray), (⟨#[97, 98]⟩ : ByteArray), (⟨#[105, 116, 39, 115]⟩ : ByteArray), (⟨#[39, 39]⟩ : ByteArray), (⟨#[122, 32, 122]⟩ : ByteArray), (⟨#[116, 114, 117, 101]⟩ : ByteArray), (⟨#[49, 50]⟩ : ByteArray), (⟨#[49, 46, 53, 48]⟩ : ByteArray), (⟨#[50, 48, 50, 52, 45, 48, 50, 45, 50, 57]⟩ : ByteArray), (⟨#[126, 126, 126, 126, 126, 126, 126, 126, 126, 126, 126, 126]⟩ : ByteArray), (⟨#[51, 109, 45, 52, 100]⟩ : ByteArray), (⟨#[65]⟩ : ByteArray)] (by simp) (by simp)
  refine ⟨t, ?_, Ev.step 2 (fun k => F115_eq k _ _) (Ev.bind h1 (Ev.now _))⟩
  simp only [List.mem_cons, List.not_mem_nil, or_false] at ht
  rcases ht with rfl | rfl | rfl | rfl | rfl | rfl | rfl | rfl | rfl | rfl | rfl | rfl | rfl | rfl <;> decide
theorem anyDay_ev {p : Nat} (hp : p + 20 ≤ 1000000) : ∃ (v : Int) (q : Nat), q ≤ p + 20 ∧ Ev (fun k => F103 k bs (p : Int)) ((v, ()), ((bs, (q : Int), ()), ())) := by
  obtain ⟨v, _, h1⟩ := pick_ev hb (show p ≤ 1000000000 by omega) 20
  by_cases c0 : v = 0
  · obtain ⟨u, _, h2⟩ := one_ev hb (show p + 1 ≤ 1000000000 by omega) [0, -1, 3652060] (by simp)
    refine ⟨u, p + 1 + 1, by omega, Ev.step 2 (fun k => F103_eq k _ _) (Ev.bind h1 ?_)⟩
    simp only [c0, beq_self_eq_true, if_true]
    exact Ev.bind h2 (Ev.now _)
  · obtain ⟨u, q, hq, h2⟩ := day_ev hb (p := p + 1) (by omega)
    refine ⟨u, q, by omega, Ev.step 2 (fun k => F103_eq k _ _) (Ev.bind h1 ?_)⟩
    simp only [beq_eq_false_iff_ne.2 c0, Bool.false_eq_true, if_false]
    exact Ev.bind h2 (Ev.now _)
theorem anySpan_ev {p : Nat} (hp : p + 20 ≤ 1000000) : ∃ (m d : Int) (q : Nat), q ≤ p + 20 ∧ Ev (fun k => F104 k bs (p : Int)) (((m, d, ()), ()), ((bs, (q : Int), ()), ())) := by
  obtain ⟨m, d, q, hq, h1⟩ := span_ev hb (p := p) (by omega)
  have c4 : ∀ (q : Nat) (x y m : Int), q + 3 ≤ 1000000 → ∃ (m' d' : Int) (q' : Nat), q' ≤ q + 3 ∧ Ev (fun k => F104c4 k bs (q : Int) x y m d) (((m', d', ()), ()), ((bs, (q' : Int), ()), ())) := fun q x y m hq => by
    obtain ⟨v, _, h2⟩ := pick_ev hb (show q ≤ 1000000000 by omega) 20
    by_cases c0 : v = 0
    · obtain ⟨u, _, h3⟩ := one_ev hb (show q + 1 ≤ 1000000000 by omega) [4000001, -4000001] (by simp)
      refine ⟨m, u, q + 1 + 1, by omega, Ev.step 1 (fun k => F104c4_eq k _ _ _ _ _ _) (Ev.bind h2 ?_)⟩
      simp only [c0, beq_self_eq_true, if_true]
      exact Ev.bind h3 (Ev.step 1 (fun k => F104c6_eq k _ _ _ _ _ _) (Ev.now _))
    · refine ⟨m, d, q + 1, by omega, Ev.step 1 (fun k => F104c4_eq k _ _ _ _ _ _) (Ev.bind h2 ?_)⟩
      simp only [beq_eq_false_iff_ne.2 c0, Bool.false_eq_true, if_false]
      exact Ev.step 1 (fun k => F104c6_eq k _ _ _ _ _ _) (Ev.now _)
  obtain ⟨v, _, h2⟩ := pick_ev hb (show q ≤ 1000000000 by omega) 20
  by_cases c0 : v = 0
  · obtain ⟨u, _, h3⟩ := one_ev hb (show q + 1 ≤ 1000000000 by omega) [120001, -120001] (by simp)
    obtain ⟨m', d', q', hq', h4⟩ := c4 (q + 1 + 1) 0 0 u (by omega)
    refine ⟨m', d', q', by omega, Ev.step 2 (fun k => F104_eq k _ _) (Ev.bind h1 (Ev.bind h2 ?_))⟩
    simp only [c0, beq_self_eq_true, if_true]
    exact Ev.bind h3 h4
  · obtain ⟨m', d', q', hq', h4⟩ := c4 (q + 1) 0 0 m (by omega)
    refine ⟨m', d', q', by omega, Ev.step 2 (fun k => F104_eq k _ _) (Ev.bind h1 (Ev.bind h2 ?_))⟩
    simp only [beq_eq_false_iff_ne.2 c0, Bool.false_eq_true, if_false]
    exact h4
theorem valueOf_ev {p : Nat} (hp : p + 700 ≤ 1000000) (kd : Int) : ∃ (k0 : Int) (y n : Bool) (l : List Int) (s day mo da : Int) (t : ByteArray) (q : Nat), l.length ≤ 100 ∧ t.size ≤ 100 ∧ q ≤ p + 700 ∧ Ev (fun k => F70 k bs (p : Int) kd) (((k0, y, n, l, s, day, mo, da, t, ()), ()), ((bs, (q : Int), ()), (), ())) := by
  by_cases c1 : kd = 1
  · obtain ⟨v, _, h1⟩ := pick_ev hb (show p ≤ 1000000000 by omega) 2
    refine ⟨1, (v == 0), false, [], 0, 0, 0, 0, ByteArray.empty, p + 1, by simp, by decide, by omega, Ev.step 2 (fun k => F70_eq k _ _ _) ?_⟩
    simp only [c1, beq_self_eq_true, if_true]
    exact Ev.bind h1 (Ev.bind (Ev.step 2 (fun k => F110_eq k _) (Ev.now _)) (Ev.now _))
  by_cases c2 : kd = 2
  · obtain ⟨z, s, q, hz, _, hq, h1⟩ := l14Dec_ev hb (p := p) (by omega)
    have hl := z16 hz
    refine ⟨2, false, decide (z < 0), digs z.natAbs, (s : Int), 0, 0, 0, ByteArray.empty, q, by omega, by decide, by omega, Ev.step 2 (fun k => F70_eq k _ _ _) ?_⟩
    simp only [c2, show ((2 : Int) == 1) = false from rfl, beq_self_eq_true, Bool.false_eq_true, if_false, if_true]
    exact Ev.bind h1 (Ev.bind (Ev.step 2 (fun k => F111_eq k _ _ _) (Ev.now _)) (Ev.now _))
  by_cases c3 : kd = 3
  · obtain ⟨v, q, hq, h1⟩ := day_ev hb (p := p) (by omega)
    refine ⟨3, false, false, [], 0, v, 0, 0, ByteArray.empty, q, by simp, by decide, by omega, Ev.step 2 (fun k => F70_eq k _ _ _) ?_⟩
    simp only [c3, show ((3 : Int) == 1) = false from rfl, show ((3 : Int) == 2) = false from rfl, beq_self_eq_true, Bool.false_eq_true, if_false, if_true]
    exact Ev.bind h1 (Ev.now _)
  by_cases c4 : kd = 4
  · obtain ⟨m, d, q, hq, h1⟩ := span_ev hb (p := p) (by omega)
    refine ⟨4, false, false, [], 0, 0, m, d, ByteArray.empty, q, by simp, by decide, by omega, Ev.step 2 (fun k => F70_eq k _ _ _) ?_⟩
    simp only [c4, show ((4 : Int) == 1) = false from rfl, show ((4 : Int) == 2) = false from rfl, show ((4 : Int) == 3) = false from rfl, beq_self_eq_true, Bool.false_eq_true, if_false, if_true]
    exact Ev.bind h1 (Ev.now _)
  by_cases c5 : kd = 5
  · obtain ⟨t, ht, h1⟩ := word_ev hb (p := p) (by omega)
    refine ⟨5, false, false, [], 0, 0, 0, 0, t, p + 1, by simp, ht, by omega, Ev.step 2 (fun k => F70_eq k _ _ _) ?_⟩
    simp only [c5, show ((5 : Int) == 1) = false from rfl, show ((5 : Int) == 2) = false from rfl, show ((5 : Int) == 3) = false from rfl, show ((5 : Int) == 4) = false from rfl, beq_self_eq_true, Bool.false_eq_true, if_false, if_true]
    exact Ev.bind h1 (Ev.now _)
  · refine ⟨0, false, false, [], 0, 0, 0, 0, ByteArray.empty, p, by simp, by decide, by omega, Ev.step 2 (fun k => F70_eq k _ _ _) ?_⟩
    simp only [beq_eq_false_iff_ne.2 c1, beq_eq_false_iff_ne.2 c2, beq_eq_false_iff_ne.2 c3, beq_eq_false_iff_ne.2 c4, beq_eq_false_iff_ne.2 c5, Bool.false_eq_true, if_false]
    exact Ev.now _
theorem value_ev {p : Nat} (hp : p + 800 ≤ 1000000) : ∃ (k0 : Int) (y n : Bool) (l : List Int) (s day mo da : Int) (t : ByteArray) (q : Nat), l.length ≤ 100 ∧ t.size ≤ 100 ∧ q ≤ p + 800 ∧ Ev (fun k => F100 k bs (p : Int)) (((k0, y, n, l, s, day, mo, da, t, ()), ()), ((bs, (q : Int), ()), ())) := by
  obtain ⟨v, _, h1⟩ := pick_ev hb (show p ≤ 1000000000 by omega) 6
  obtain ⟨k0, y, n, l, s, day, mo, da, t, q, hl, ht, hq, h2⟩ := valueOf_ev hb (p := p + 1) (by omega) v
  exact ⟨k0, y, n, l, s, day, mo, da, t, q, hl, ht, by omega, Ev.step 2 (fun k => F100_eq k _ _) (Ev.bind h1 (Ev.bind h2 (Ev.now _)))⟩
theorem anyValue_ev {p : Nat} (hp : p + 3000 ≤ 1000000) : ∃ (k0 : Int) (y n : Bool) (l : List Int) (s day mo da : Int) (t : ByteArray) (q : Nat), l.length ≤ 100 ∧ t.size ≤ 100 ∧ q ≤ p + 3000 ∧ Ev (fun k => F55 k bs (p : Int)) (((k0, y, n, l, s, day, mo, da, t, ()), ()), ((bs, (q : Int), ()), ())) := by
  obtain ⟨k0, y, n, l, s, day, mo, da, t, q, hl, ht, hq, h1⟩ := value_ev hb (p := p) (by omega)
  obtain ⟨v, _, h2⟩ := pick_ev hb (show q ≤ 1000000000 by omega) 30
  by_cases c0 : v = 0
  · obtain ⟨u, _, h3⟩ := one_ev hb (show q + 1 ≤ 1000000000 by omega) [-1, 6, 1, 2] (by simp)
    refine ⟨u, y, n, l, s, day, mo, da, t, q + 1 + 1, hl, ht, by omega, Ev.step 2 (fun k => F55_eq k _ _) (Ev.bind h1 (Ev.bind h2 ?_))⟩
    simp only [c0, beq_self_eq_true, if_true]
    exact Ev.bind h3 (Ev.step 1 (fun k => F55c15_eq k _ _ _ _ _ _ _ _ _ _ _ _ _ _ _ _ _ _ _ _) (Ev.now _))
  by_cases c1 : v = 1
  · obtain ⟨u, hu, h3⟩ := of_ev hb (show q + 1 ≤ 1000000000 by omega) [(⟨#[116, 104, 105, 114, 116, 101, 101, 110, 32, 98, 121, 116, 101]⟩ : ByteArray), (⟨#[97, 10]⟩ : ByteArray), (⟨#[127]⟩ : ByteArray), (⟨#[120]⟩ : ByteArray)] (by simp) (by simp)
    have hu2 : u.size ≤ 100 := by
      simp only [List.mem_cons, List.not_mem_nil, or_false] at hu
      rcases hu with rfl | rfl | rfl | rfl <;> decide
    refine ⟨k0, y, n, l, s, day, mo, da, u, q + 1 + 1, hl, hu2, by omega, Ev.step 2 (fun k => F55_eq k _ _) (Ev.bind h1 (Ev.bind h2 ?_))⟩
    simp only [c1, show ((1 : Int) == 0) = false from rfl, beq_self_eq_true, Bool.false_eq_true, if_false, if_true]
    exact Ev.bind h3 (Ev.step 1 (fun k => F55c15_eq k _ _ _ _ _ _ _ _ _ _ _ _ _ _ _ _ _ _ _ _) (Ev.now _))
  by_cases c2 : v = 2
  · obtain ⟨n', l', s', q', hl', hq', h3⟩ := anyDec_ev hb (p := q + 1) (by omega)
    refine ⟨k0, y, n', l', s', day, mo, da, t, q', hl', ht, by omega, Ev.step 2 (fun k => F55_eq k _ _) (Ev.bind h1 (Ev.bind h2 ?_))⟩
    simp only [c2, show ((2 : Int) == 0) = false from rfl, show ((2 : Int) == 1) = false from rfl, beq_self_eq_true, Bool.false_eq_true, if_false, if_true]
    exact Ev.bind h3 (Ev.step 1 (fun k => F55c15_eq k _ _ _ _ _ _ _ _ _ _ _ _ _ _ _ _ _ _ _ _) (Ev.now _))
  by_cases c3 : v = 3
  · obtain ⟨u, q', hq', h3⟩ := anyDay_ev hb (p := q + 1) (by omega)
    refine ⟨k0, y, n, l, s, u, mo, da, t, q', hl, ht, by omega, Ev.step 2 (fun k => F55_eq k _ _) (Ev.bind h1 (Ev.bind h2 ?_))⟩
    simp only [c3, show ((3 : Int) == 0) = false from rfl, show ((3 : Int) == 1) = false from rfl, show ((3 : Int) == 2) = false from rfl, beq_self_eq_true, Bool.false_eq_true, if_false, if_true]
    exact Ev.bind h3 (Ev.step 1 (fun k => F55c15_eq k _ _ _ _ _ _ _ _ _ _ _ _ _ _ _ _ _ _ _ _) (Ev.now _))
  by_cases c4 : v = 4
  · refine ⟨k0, true, n, l, s, day, mo, da, t, q + 1, hl, ht, by omega, Ev.step 2 (fun k => F55_eq k _ _) (Ev.bind h1 (Ev.bind h2 ?_))⟩
    simp only [c4, show ((4 : Int) == 0) = false from rfl, show ((4 : Int) == 1) = false from rfl, show ((4 : Int) == 2) = false from rfl, show ((4 : Int) == 3) = false from rfl, beq_self_eq_true, Bool.false_eq_true, if_false, if_true]
    exact Ev.step 1 (fun k => F55c15_eq k _ _ _ _ _ _ _ _ _ _ _ _ _ _ _ _ _ _ _ _) (Ev.now _)
  by_cases c5 : v = 5
  · obtain ⟨m', d', q', hq', h3⟩ := anySpan_ev hb (p := q + 1) (by omega)
    refine ⟨k0, y, n, l, s, day, m', d', t, q', hl, ht, by omega, Ev.step 2 (fun k => F55_eq k _ _) (Ev.bind h1 (Ev.bind h2 ?_))⟩
    simp only [c5, show ((5 : Int) == 0) = false from rfl, show ((5 : Int) == 1) = false from rfl, show ((5 : Int) == 2) = false from rfl, show ((5 : Int) == 3) = false from rfl, show ((5 : Int) == 4) = false from rfl, beq_self_eq_true, Bool.false_eq_true, if_false, if_true]
    exact Ev.bind h3 (Ev.step 1 (fun k => F55c15_eq k _ _ _ _ _ _ _ _ _ _ _ _ _ _ _ _ _ _ _ _) (Ev.now _))
  · refine ⟨k0, y, n, l, s, day, mo, da, t, q + 1, hl, ht, by omega, Ev.step 2 (fun k => F55_eq k _ _) (Ev.bind h1 (Ev.bind h2 ?_))⟩
    simp only [beq_eq_false_iff_ne.2 c0, beq_eq_false_iff_ne.2 c1, beq_eq_false_iff_ne.2 c2, beq_eq_false_iff_ne.2 c3, beq_eq_false_iff_ne.2 c4, beq_eq_false_iff_ne.2 c5, Bool.false_eq_true, if_false]
    exact Ev.step 1 (fun k => F55c15_eq k _ _ _ _ _ _ _ _ _ _ _ _ _ _ _ _ _ _ _ _) (Ev.now _)
end
theorem drawCmp_ev (code : List Int) (w : ∀ y ∈ code, 0 ≤ y ∧ y ≤ 255) : ∃ (k1 : Int) (y1 n1 : Bool) (l1 : List Int) (s1 d1 m1 a1 : Int) (t1 : ByteArray) (k2 : Int) (y2 n2 : Bool) (l2 : List Int) (s2 d2 m2 a2 : Int) (t2 : ByteArray), l1.length ≤ 100 ∧ t1.size ≤ 100 ∧ l2.length ≤ 100 ∧ t2.size ≤ 100 ∧ Ev (fun k => F32 k code) (((k1, y1, n1, l1, s1, d1, m1, a1, t1, ()), (k2, y2, n2, l2, s2, d2, m2, a2, t2, ()), ()), ((), ())) := by
  obtain ⟨bs, hb, h1⟩ := open_ev code w
  obtain ⟨k1, y1, n1, l1, s1, d1, m1, a1, t1, q, hl1, ht1, hq, h2⟩ := anyValue_ev hb (p := 0) (by omega)
  obtain ⟨v, _, h3⟩ := pick_ev hb (show q ≤ 1000000000 by omega) 3
  by_cases c : v > 0
  · obtain ⟨k2, y2, n2, l2, s2, d2, m2, a2, t2, q2, hl2, ht2, hq2, h4⟩ := valueOf_ev hb (p := q + 1) (by omega) k1
    refine ⟨k1, y1, n1, l1, s1, d1, m1, a1, t1, k2, y2, n2, l2, s2, d2, m2, a2, t2, hl1, ht1, hl2, ht2, Ev.step 2 (fun k => F32_eq k _) (Ev.bind h1 (Ev.bind h2 (Ev.bind h3 ?_)))⟩
    simp only [c, decide_true, if_true]
    exact Ev.bind h4 (Ev.now _)
  · obtain ⟨k2, y2, n2, l2, s2, d2, m2, a2, t2, q2, hl2, ht2, hq2, h4⟩ := anyValue_ev hb (p := q + 1) (by omega)
    refine ⟨k1, y1, n1, l1, s1, d1, m1, a1, t1, k2, y2, n2, l2, s2, d2, m2, a2, t2, hl1, ht1, hl2, ht2, Ev.step 2 (fun k => F32_eq k _) (Ev.bind h1 (Ev.bind h2 (Ev.bind h3 ?_)))⟩
    simp only [c, decide_false, Bool.false_eq_true, if_false]
    exact Ev.bind h4 (Ev.now _)
theorem drawOrder_ev (code : List Int) (w : ∀ y ∈ code, 0 ≤ y ∧ y ≤ 255) : ∃ (k1 : Int) (y1 n1 : Bool) (l1 : List Int) (s1 d1 m1 a1 : Int) (t1 : ByteArray) (k2 : Int) (y2 n2 : Bool) (l2 : List Int) (s2 d2 m2 a2 : Int) (t2 : ByteArray), l1.length ≤ 100 ∧ t1.size ≤ 100 ∧ l2.length ≤ 100 ∧ t2.size ≤ 100 ∧ Ev (fun k => F9 k code) (((k1, y1, n1, l1, s1, d1, m1, a1, t1, ()), (k2, y2, n2, l2, s2, d2, m2, a2, t2, ()), ()), ((), ())) := by
  obtain ⟨k1, y1, n1, l1, s1, d1, m1, a1, t1, k2, y2, n2, l2, s2, d2, m2, a2, t2, hl1, ht1, hl2, ht2, h⟩ := drawCmp_ev code w
  exact ⟨k1, y1, n1, l1, s1, d1, m1, a1, t1, k2, y2, n2, l2, s2, d2, m2, a2, t2, hl1, ht1, hl2, ht2, Ev.step 2 (fun k => F9_eq k _) (Ev.bind h (Ev.now _))⟩
end Go.Proofs.YtiojgdjpigcgaaaGreatDoor.R
end

section
/-! Rf: decimals in order, as whole numbers with a scale: what the functions answer. -/
set_option autoImplicit false
set_option linter.unusedSimpArgs false
set_option linter.unusedVariables false
namespace Go.Proofs.YtiojgdjpigcgaaaGreatDoor.R
open Go.Rf
/-- are two decimals written alike? -/
def alike (n1 : Bool) (l1 : List Int) (s1 : Int) (n2 : Bool) (l2 : List Int) (s2 : Int) : Bool := (s1 == s2) && ((n1 == n2) && decide (l1 = l2))
theorem alike_self (n : Bool) (l : List Int) (s : Int) : alike n l s n l s = true := by simp [alike]
theorem digs_inj {a b : Nat} (h : digs a = digs b) : a = b := by
  have h1 := VI_digs a
  have h2 := VI_digs b
  rw [h] at h1
  omega
theorem alike_D {z1 z2 : Int} {s1 s2 : Nat} : alike (decide (z1 < 0)) (digs z1.natAbs) (s1 : Int) (decide (z2 < 0)) (digs z2.natAbs) (s2 : Int) = decide (z1 = z2 ∧ s1 = s2) := by
  unfold alike
  by_cases h : z1 = z2 ∧ s1 = s2
  · obtain ⟨rfl, rfl⟩ := h
    simp
  · rw [decide_eq_false h]
    by_cases hs : s1 = s2
    · have hz : z1 ≠ z2 := fun e => h ⟨e, hs⟩
      have : ¬ (decide (z1 < 0) = decide (z2 < 0) ∧ digs z1.natAbs = digs z2.natAbs) := by
        rintro ⟨h1, h2⟩
        have h3 := digs_inj h2
        have h4 : (z1 < 0) ↔ (z2 < 0) := by simpa using h1
        omega
      by_cases hd : decide (z1 < 0) = decide (z2 < 0)
      · simp only [hd, beq_self_eq_true, Bool.true_and, decide_eq_false (fun e => this ⟨hd, e⟩), Bool.and_false]
      · rw [beq_eq_false_iff_ne.2 hd, Bool.false_and, Bool.and_false]
    · have : ((s1 : Int) == (s2 : Int)) = false := by rw [beq_eq_false_iff_ne]; omega
      rw [this, Bool.false_and]
section
variable (n1 : Bool) (l1 : List Int) (s1 : Int) (n2 : Bool) (l2 : List Int) (s2 : Int)
end
section
variable {z1 z2 : Int} {s1 s2 : Nat} (h1 : z1.natAbs < 10 ^ 30) (h2 : z2.natAbs < 10 ^ 30) (t1 : s1 ≤ 12) (t2 : s2 ≤ 12)
include h1 h2 t1 t2
end
theorem okD {z : Int} {s : Nat} (h : z.natAbs < 10 ^ 30) (t : s ≤ 12) : Ev (fun k => F71 k (decide (z < 0)) (digs z.natAbs) (s : Int)) ((true, ()), (((), (), (), ()), ())) := by
  have o1 : (digs z.natAbs).length ≤ 1048576 := by have := len16 h; omega
  have := DecOk_ev (decide (z < 0)) (digs z.natAbs) (s : Int) o1
  rwa [decOk_D h t] at this
theorem mk_fine {z : Int} {s : Nat} (h : z.natAbs < 10 ^ 30) : mk z s = (D z s, 0, ()) := if_pos h
theorem mk_over {z : Int} {s : Nat} (h : ¬ z.natAbs < 10 ^ 30) : mk z s = ((false, [], 0, ()), 3, ()) := if_neg h
theorem u8_of {y : Int} (h : wfT (.int .u8) y) : 0 ≤ y ∧ y ≤ 255 := by
  have h : (Lit.int .u8 y).wf = true := h
  simp [Lit.wf, IntKind.min, IntKind.max, IntKind.bits, IntKind.signed] at h
  omega
theorem cmpZ_eq (x : Int) : cmpZ x x = 0 := by unfold cmpZ; rw [if_neg (by omega), if_pos rfl]
theorem cmpZ_zero {x y : Int} : cmpZ x y = 0 ↔ x = y := by
  unfold cmpZ
  constructor
  · intro h
    split at h
    · omega
    · split at h
      · assumption
      · omega
  · rintro rfl
    rw [if_neg (by omega), if_pos rfl]
theorem cmpZ_swap (x y : Int) : cmpZ y x = -cmpZ x y := by
  unfold cmpZ
  (repeat' split) <;> omega
theorem cmpZ_range (x y : Int) : cmpZ x y = -1 ∨ cmpZ x y = 0 ∨ cmpZ x y = 1 := by
  unfold cmpZ
  (repeat' split) <;> simp
end Go.Proofs.YtiojgdjpigcgaaaGreatDoor.R
end

section
/-! Rf: the law FnKeyOrder, with no machine in sight. -/
set_option autoImplicit false
set_option linter.unusedSimpArgs false
set_option linter.unusedVariables false
namespace Go.Proofs.YtiojgdjpigcgaaaGreatDoor.R
open Go.Rf
theorem jtSign_ev (a b : ByteArray) : Ev (fun k => F12 k a b) ((tc a b, ()), ((), (), ())) := by
  obtain ⟨h1, h2, h3⟩ := less_cmp a.data.toList b.data.toList
  refine Ev.step 2 (fun k => F12_eq k _ _) ?_
  rw [Lib.toList_data, Lib.toList_data]
  unfold tc
  cases hl : Op.bytesLess a.data.toList b.data.toList with
  | true =>
    rw [h1.1 hl]
    simp only [if_true]
    exact Ev.now _
  | false =>
    have n1 : Lib.compareBytes a.data.toList b.data.toList ≠ -1 := fun h => by rw [h1.2 h] at hl; cases hl
    by_cases he : a.data.toList = b.data.toList
    · rw [h2.2 he]
      simp only [he, beq_self_eq_true, Bool.or_true, Bool.not_true, Bool.false_eq_true, if_false]
      exact Ev.now _
    · have n0 : Lib.compareBytes a.data.toList b.data.toList ≠ 0 := fun h => he (h2.1 h)
      have e1 : Lib.compareBytes a.data.toList b.data.toList = 1 := by rcases h3 with h | h | h; exact absurd h n1; exact absurd h n0; exact h
      rw [e1]
      simp only [beq_eq_false_iff_ne.2 he, Bool.or_false, Bool.not_false, Bool.false_eq_true, if_false, if_true]
      exact Ev.now _
theorem keyPut_exact {k0 : Int} {y n : Bool} {l : List Int} {s day mo da : Int} {t : ByteArray} (hl : l.length ≤ 1048576) (ht : t.size ≤ 1048576) (h : vOk k0 y n l s day mo da t = true) :
    ∃ B : List UInt8, BodyX k0 y n l s day mo da t B ∧ ∀ down : Bool, Ev (fun k => F13 k k0 y n l s day mo da t down) ((ba (if down = true then flip (u8 (IntKind.i64.wrap (k0 + 1)) :: B) else u8 (IntKind.i64.wrap (k0 + 1)) :: B), ()), (((), (), (), (), (), (), (), (), (), ()), (), ())) := by
  have v1 := ValueOk_ev k0 y n l s day mo da t hl ht
  rw [h] at v1
  obtain ⟨B, hS, h1⟩ := key_exact h
  refine ⟨B, hS, fun down => Ev.step 2 (fun k => F13_eq k _ _ _ _ _ _ _ _ _ _) (Ev.bind v1 ?_)⟩
  simp only [Bool.not_true, Bool.false_eq_true, if_false]
  refine Ev.bind (h1 down) ?_
  simp only [bytes_ints]
  exact Ev.now _
theorem FnKeyOrder : PureFnKeyOrder := by
  intro code w
  have w8 : ∀ y ∈ code, 0 ≤ y ∧ y ≤ 255 := fun y hy => u8_of (w.2 y hy)
  have fin : Ev (fun k => F3 k code) ((true, ()), ((), ())) := by
    refine Ev.step 2 (fun k => F3_eq k _) ?_
    by_cases hlen : code.length > 1048576
    · simp only [decide_eq_true (show (code.length : Int) > 1048576 by omega), if_true]
      exact Ev.now _
    simp only [decide_eq_false (show ¬ (code.length : Int) > 1048576 by omega), Bool.false_eq_true, if_false]
    obtain ⟨k1, y1, n1, l1, s1, d1, m1, a1, t1, k2, y2, n2, l2, s2, d2, m2, a2, t2, hl1, ht1, hl2, ht2, hd⟩ := drawOrder_ev code w8
    have im := ValueOrder_im k1 y1 n1 l1 s1 d1 m1 a1 t1 k2 y2 n2 l2 s2 d2 m2 a2 t2 (by omega) (by omega) (by omega) (by omega)
    have sp := ValueOrder_sp k1 y1 n1 l1 s1 d1 m1 a1 t1 k2 y2 n2 l2 s2 d2 m2 a2 t2 (by omega) (by omega) (by omega) (by omega)
    refine Ev.bind hd (Ev.bind im (Ev.bind sp ?_))
    simp only [bne_self_eq_false, Bool.false_eq_true, if_false]
    by_cases ok : vOk k1 y1 n1 l1 s1 d1 m1 a1 t1 = true ∧ vOk k2 y2 n2 l2 s2 d2 m2 a2 t2 = true
    · obtain ⟨o1, o2⟩ := ok
      have rg := o_range (v := ⟨k1, y1, n1, l1, s1, d1, m1, a1, t1⟩) (w := ⟨k2, y2, n2, l2, s2, d2, m2, a2, t2⟩) o1 o2
      unfold Vw.o at rg
      obtain ⟨B1, S1, g1⟩ := keyPut_exact (show l1.length ≤ 1048576 by omega) (show t1.size ≤ 1048576 by omega) o1
      obtain ⟨B2, S2, g2⟩ := keyPut_exact (show l2.length ≤ 1048576 by omega) (show t2.size ≤ 1048576 by omega) o2
      have hc := key_cmp o1 o2 S1 S2
      have hf := cb_flip (key_free (vOk_kind o1) (vOk_kind o2) S1.shape S2.shape) (key_free (vOk_kind o2) (vOk_kind o1) S2.shape S1.shape)
      rw [hc] at hf
      unfold vOrd
      simp only [o1, o2, Bool.and_self, if_true]
      obtain ⟨c, ec⟩ : ∃ c, c = vo k1 y1 n1 l1 s1 d1 m1 a1 t1 k2 y2 n2 l2 s2 d2 m2 a2 t2 := ⟨_, rfl⟩
      rw [← ec] at rg hc hf ⊢
      have b2 : (c == (2 : Int)) = false := by rw [beq_eq_false_iff_ne]; omega
      have ew : IntKind.i64.wrap (0 - c) = -c := by rw [wrap64 (by omega) (by omega)]; omega
      simp only [b2, Bool.false_eq_true, if_false]
      have u1 := jtSign_ev (ba (u8 (IntKind.i64.wrap (k1 + 1)) :: B1)) (ba (u8 (IntKind.i64.wrap (k2 + 1)) :: B2))
      have u2 := jtSign_ev (ba (flip (u8 (IntKind.i64.wrap (k1 + 1)) :: B1))) (ba (flip (u8 (IntKind.i64.wrap (k2 + 1)) :: B2)))
      have t1' : tc (ba (u8 (IntKind.i64.wrap (k1 + 1)) :: B1)) (ba (u8 (IntKind.i64.wrap (k2 + 1)) :: B2)) = c := hc
      have t2' : tc (ba (flip (u8 (IntKind.i64.wrap (k1 + 1)) :: B1))) (ba (flip (u8 (IntKind.i64.wrap (k2 + 1)) :: B2))) = -c := hf
      rw [t1'] at u1
      rw [t2'] at u2
      have f1 := g1 false
      have f2 := g2 false
      have f3 := g1 true
      have f4 := g2 true
      simp only [Bool.false_eq_true, if_false] at f1 f2
      simp only [if_true] at f3 f4
      refine Ev.bind f1 (Ev.bind f2 (Ev.bind u1 (Ev.bind f3 (Ev.bind f4 (Ev.bind u2 ?_)))))
      simp only [beq_self_eq_true, if_true, ew]
      exact Ev.now _
    · have hv : vOrd k1 y1 n1 l1 s1 d1 m1 a1 t1 k2 y2 n2 l2 s2 d2 m2 a2 t2 = 2 := by
        unfold vOrd
        rw [if_neg (by rw [Bool.and_eq_true]; exact ok)]
      simp only [beq_iff_eq.2 hv, if_true]
      refine Ev.bind sp ?_
      simp only [beq_self_eq_true]
      exact Ev.now _
  obtain ⟨k, hk⟩ := Ev.get fin
  exact ⟨k, _, hk⟩
end Go.Proofs.YtiojgdjpigcgaaaGreatDoor.R
end

section
/-- The row, under a short name, for the claim. -/
theorem Go.Proofs.YtiojgdjpigcgaaaGreatDoor.fnKeyOrder_holds : Go.Proofs.YtiojgdjpigcgaaaGreatDoor.Rows.FnKeyOrderCardSaid := Go.Proofs.YtiojgdjpigcgaaaGreatDoor.fnKeyOrder.card Go.Proofs.YtiojgdjpigcgaaaGreatDoor.R.FnKeyOrder
end
