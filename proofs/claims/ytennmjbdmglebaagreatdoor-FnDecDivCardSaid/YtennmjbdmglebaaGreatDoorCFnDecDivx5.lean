/- A part of the proof that the law FnDecDiv answers true for every input: contracts of functions that it reaches, or its plain law. -/
import Derived.Test.YtennmjbdmglebaaGreatDoorCFnDecDivx0
import Derived.Test.YtennmjbdmglebaaGreatDoorCFnDecDivx2
import Derived.Test.YtennmjbdmglebaaGreatDoorCFnDecDivx3
import Derived.Test.YtennmjbdmglebaaGreatDoorCFnDecDivx4
section
/-! Rf: rounding to a scale. -/
set_option autoImplicit false
set_option linter.unusedSimpArgs false
set_option linter.unusedVariables false
namespace Go.Proofs.YtennmjbdmglebaaGreatDoor.R
open Go.Rf
theorem made_len1 {neg : Bool} {n : Nat} {s : Int} (h : (digs n).length ≤ 1000) : (made neg n s).1.2.1.length ≤ 1000 := by
  unfold made
  split
  · show ([] : List Int).length ≤ 1000
    simp
  · exact h
theorem pow_len {V m : Nat} (hV : V < 10000 ^ 16) (hm : m ≤ 24) : (digs (V * 10 ^ m)).length ≤ 40 := digs_len_le (at_lt hV hm)
/-- what is not in order -/
def dForm : (Bool × List Int × Int × Unit) × Int × Unit := ((false, [], 0, ()), 1, ())
/-- a decimal rounded to a scale -/
def dRound (n : Bool) (l : List Int) (s sc mode : Int) : (Bool × List Int × Int × Unit) × Int × Unit := if decOk n l s = true ∧ within sc 0 12 = true ∧ within mode 1 7 = true then
  (if s.toNat ≤ sc.toNat then made n (num l * 10 ^ (sc.toNat - s.toNat)) sc else made n (rquo n (num l) (10 ^ (s.toNat - sc.toNat)) mode) sc) else dForm
end Go.Proofs.YtennmjbdmglebaaGreatDoor.R
end

section
/-! Rf: products and quotients of decimals. -/
set_option autoImplicit false
set_option linter.unusedSimpArgs false
set_option linter.unusedVariables false
namespace Go.Proofs.YtennmjbdmglebaaGreatDoor.R
open Go.Rf
theorem signed_ev (n : Bool) (l : List Int) : Ev (fun k => F38 k n l) (((n, l, ()), ()), (((), (), ()), ())) := Ev.step 2 (fun k => F38_eq k _ _) (Ev.now _)
theorem len_lt {V m : Nat} (h : V < 10000 ^ m) : (digs V).length ≤ m := digs_len_le h
theorem lt_mul {A B a b : Nat} (ha : A < 10000 ^ a) (hb : B < 10000 ^ b) : A * B < 10000 ^ (a + b) := by
  rw [Nat.pow_add]
  have h1 : A * B ≤ A * 10000 ^ b := Nat.mul_le_mul_left _ (Nat.le_of_lt hb)
  have h2 : A * 10000 ^ b < 10000 ^ a * 10000 ^ b := Nat.mul_lt_mul_of_pos_right ha (Nat.pow_pos (by omega))
  omega
theorem ten_lt {m : Nat} (hm : m ≤ 28) : 10 ^ m < 10000 ^ 8 := by
  have h : (10000 : Nat) ^ 8 = 10 ^ 32 := by decide
  rw [h]
  exact Nat.pow_lt_pow_right (by omega) (by omega)
theorem rquo_le (neg : Bool) (V D : Nat) (mode : Int) : rquo neg V D mode ≤ V / D + 1 := by
  unfold rquo
  split
  · omega
  · split <;> omega
theorem rquo_len {neg : Bool} {V D m : Nat} {mode : Int} (h : V < 10000 ^ m) : (digs (rquo neg V D mode)).length ≤ m + 1 := by
  refine digs_len_le ?_
  have h1 := rquo_le neg V D mode
  have h2 : V / D ≤ V := Nat.div_le_self V D
  have h3 : (10000 : Nat) ^ (m + 1) = 10000 ^ m * 10000 := Nat.pow_succ ..
  have h4 : 0 < 10000 ^ m := Nat.pow_pos (by omega)
  omega
theorem mulNum {l1 l2 : List Int} (ra : InR l1) (rb : InR l2) : (VI l1 * VI l2).toNat = num l1 * num l2 := by
  rw [num_spec ra, num_spec rb, ← Int.natCast_mul, Int.toNat_natCast]
theorem mulTen {l1 : List Int} (ra : InR l1) (m : Nat) : (VI l1 * VI (digs (10 ^ m))).toNat = num l1 * 10 ^ m := by
  rw [num_spec ra, VI_digs, ← Int.natCast_mul, Int.toNat_natCast]
theorem len_num {l : List Int} (h : InR l) (t : Trim l) : ((l.length : Int) == 0) = decide (num l = 0) := by
  rw [← len_is0, digs_num h t]
theorem mode_ev (mode : Int) : Ev (fun k => F42 k mode) ((within mode 1 7, ()), ((), ())) := Ev.step 2 (fun k => F42_eq k _) (Ev.bind (l1In_ev mode 1 7) (Ev.now _))
theorem rounds_ev (sc mode : Int) : Ev (fun k => F34 k sc mode) ((within sc 0 12 && within mode 1 7, ()), ((), (), ())) := by
  refine Ev.step 2 (fun k => F34_eq k _ _) (Ev.bind (in_ev sc 0 12) ?_)
  cases within sc 0 12 with
  | true => exact Ev.bind (in_ev mode 1 7) (Ev.now _)
  | false => exact Ev.now _
/-- a quotient of decimals -/
def dDiv (n1 : Bool) (l1 : List Int) (s1 : Int) (n2 : Bool) (l2 : List Int) (s2 sc mode : Int) : (Bool × List Int × Int × Unit) × Int × Unit :=
  if decOk n1 l1 s1 = true ∧ decOk n2 l2 s2 = true ∧ within sc 0 12 = true ∧ within mode 1 7 = true then
    (if num l2 = 0 then ((false, [], 0, ()), 2, ()) else made (!(n1 == n2)) (rquo (!(n1 == n2)) (num l1 * 10 ^ (s2.toNat + sc.toNat)) (num l2 * 10 ^ s1.toNat) mode) sc) else dForm
section
variable (n1 : Bool) (l1 : List Int) (s1 : Int) (n2 : Bool) (l2 : List Int) (s2 sc mode : Int)
theorem DecDiv_both (h1 : l1.length ≤ 1048576) (h2 : l2.length ≤ 1048576) : ∃ m : (Bool × List Int × Int × Unit) × Int × Unit, m = dDiv n1 l1 s1 n2 l2 s2 sc mode ∧ m.1.2.1.length ≤ 1000 ∧ Ev (fun k => F22 k n1 l1 s1 n2 l2 s2 sc mode) (m, (((), (), (), ()), ((), (), (), ()), (), (), ())) ∧ Ev (fun k => F23 k n1 l1 s1 n2 l2 s2 sc mode) (m, (((), (), (), ()), ((), (), (), ()), (), (), ())) := by
  by_cases hok : decOk n1 l1 s1 = true ∧ decOk n2 l2 s2 = true ∧ within sc 0 12 = true ∧ within mode 1 7 = true
  · obtain ⟨c1, c2, c3, c4⟩ := hok
    obtain ⟨b1, _, t1, rfl, ht1⟩ := decOk_of c1
    obtain ⟨b2, _, t2, rfl, ht2⟩ := decOk_of c2
    obtain ⟨a16, ra, ta, _⟩ := bOk_of b1
    obtain ⟨b16, rb, tb, _⟩ := bOk_of b2
    have w3 : 0 ≤ sc ∧ sc ≤ 12 := by simpa [within] using c3
    have w4 : 1 ≤ mode ∧ mode ≤ 7 := by simpa [within] using c4
    obtain ⟨u, rfl⟩ : ∃ u : Nat, sc = (u : Int) := ⟨sc.toNat, by omega⟩
    have es : IntKind.i64.wrap ((t2 : Int) + (u : Int)) = ((t2 + u : Nat) : Int) := addN (by omega)
    have es' : IntKind.i64.wrap ((u : Int) + (t2 : Int)) = ((t2 + u : Nat) : Int) := by rw [addN (by omega), Nat.add_comm]
    have i1 : ∀ {m : (Bool × List Int × Int × Unit) × Int × Unit}, Ev (fun k => if ((l2.length : Int) == (0 : Int)) = true then some (((false, ([] : List Int), (0 : Int), ()), (2 : Int), ()), (((), (), (), ()), ((), (), (), ()), (), (), ())) else (F38 k n1 l1).bind fun r3 => (F38 k n2 l2).bind fun r4 => (F39 k (IntKind.i64.wrap ((t2 : Int) + (u : Int)))).bind fun r5 => (F56 k r3.1.1.2.1 r5.1.1).bind fun r6 => (F39 k (t1 : Int)).bind fun r7 => (F56 k r4.1.1.2.1 r7.1.1).bind fun r8 => (F37 k (!(r3.1.1.1 == r4.1.1.1)) r6.1.1 r8.1.1 mode).bind fun r9 => (F35 k r9.1.1.1 r9.1.1.2.1 (u : Int)).bind fun r10 => some (((r10.1.1.1, r10.1.1.2.1, r10.1.1.2.2.1, ()), r10.1.2.1, ()), (((), (), (), ()), ((), (), (), ()), (), (), ()))) (m, (((), (), (), ()), ((), (), (), ()), (), (), ())) → Ev (fun k => F22 k n1 l1 (t1 : Int) n2 l2 (t2 : Int) (u : Int) mode) (m, (((), (), (), ()), ((), (), (), ()), (), (), ())) := by
      intro m hm
      refine Ev.step 2 (fun k => F22_eq k _ _ _ _ _ _ _ _) (Ev.bind (decs_ev n1 l1 _ n2 l2 _ h1 h2) ?_)
      simp only [c1, c2, Bool.and_self, Bool.not_true, Bool.false_eq_true, if_false]
      refine Ev.bind (rounds_ev _ _) ?_
      simp only [c3, c4, Bool.and_self, Bool.not_true, Bool.false_eq_true, if_false]
      exact hm
    have i2 : ∀ {m : (Bool × List Int × Int × Unit) × Int × Unit}, Ev (fun k => F57 k n1 l1 (t1 : Int) n2 l2 (t2 : Int) (u : Int) mode) (m, (((), (), (), ()), ((), (), (), ()), (), (), ())) → Ev (fun k => F23 k n1 l1 (t1 : Int) n2 l2 (t2 : Int) (u : Int) mode) (m, (((), (), (), ()), ((), (), (), ()), (), (), ())) := by
      intro m hm
      refine Ev.step 2 (fun k => F23_eq k _ _ _ _ _ _ _ _) (Ev.bind (l2Ok_ev n1 l1 _ h1) ?_)
      simp only [c1, Bool.not_true, Bool.false_eq_true, if_false]
      refine Ev.bind (l2Ok_ev n2 l2 _ h2) ?_
      simp only [c2, Bool.not_true, Bool.false_eq_true, if_false]
      refine Ev.bind (l1In_ev _ 0 12) ?_
      simp only [c3, Bool.not_true, Bool.false_eq_true, if_false]
      refine Ev.bind (mode_ev mode) ?_
      simp only [c4, Bool.not_true, Bool.false_eq_true, if_false]
      exact Ev.bind hm (Ev.now _)
    by_cases h0 : num l2 = 0
    · have cz : ((l2.length : Int) == (0 : Int)) = true := by rw [len_num rb tb, decide_eq_true h0]
      refine ⟨((false, [], 0, ()), 2, ()), by simp [dDiv, c1, c2, c3, c4, h0], by simp, i1 ?_, i2 (Ev.step 2 (fun k => F57_eq k _ _ _ _ _ _ _ _) ?_)⟩
      · simp only [cz, if_true]; exact Ev.now _
      · simp only [cz, if_true]; exact Ev.now _
    · have cz : ((l2.length : Int) == (0 : Int)) = false := by rw [len_num rb tb, decide_eq_false h0]
      have hV : num l1 * 10 ^ (t2 + u) < 10000 ^ 24 := lt_mul (num_lt ra a16) (ten_lt (by omega))
      have hD : num l2 * 10 ^ t1 < 10000 ^ 24 := lt_mul (num_lt rb b16) (ten_lt (by omega))
      have kV := len_lt hV
      have kD := len_lt hD
      have lt1 := ten_len (t2 + u)
      have lt2 := ten_len t1
      have a1 := mul_ev ra (digs_InR (10 ^ (t2 + u))) (by omega) (by omega)
      have a2 := mul_ev rb (digs_InR (10 ^ t1)) (by omega) (by omega)
      have p1 := l1MulAbs_ev ra (digs_InR (10 ^ (t2 + u))) (by omega) (by omega)
      have p2 := l1MulAbs_ev rb (digs_InR (10 ^ t1)) (by omega) (by omega)
      rw [mulTen ra] at a1 p1
      rw [mulTen rb] at a2 p2
      obtain ⟨q, q0, _, q2, q3⟩ := quotient_both (!(n1 == n2)) (V := num l1 * 10 ^ (t2 + u)) (D := num l2 * 10 ^ t1) mode w4.1 w4.2 (Nat.mul_pos (by omega) (Nat.pow_pos (by omega))) (by omega) (by omega)
      have lq : (digs q).length ≤ 25 := by rw [q0]; exact rquo_len hV
      refine ⟨made (!(n1 == n2)) q (u : Int), by rw [q0]; simp [dDiv, c1, c2, c3, c4, h0], made_len1 (by omega), i1 ?_, i2 (Ev.step 2 (fun k => F57_eq k _ _ _ _ _ _ _ _) ?_)⟩
      · simp only [cz, Bool.false_eq_true, if_false, es]
        exact Ev.bind (signed_ev n1 l1) (Ev.bind (signed_ev n2 l2) (Ev.bind (ten_ev (t2 + u) (by omega)) (Ev.bind a1 (Ev.bind (ten_ev t1 (by omega)) (Ev.bind a2 (Ev.bind q2 (Ev.bind (dec_ev (by omega)) (Ev.now _))))))))
      · simp only [cz, Bool.false_eq_true, if_false, es']
        exact Ev.bind (l1TenAbs_ev (t2 + u) (by omega)) (Ev.bind p1 (Ev.bind (l1TenAbs_ev t1 (by omega)) (Ev.bind p2 (Ev.bind q3 (Ev.bind (l2Make_ev (by omega)) (Ev.now _))))))
  · refine ⟨dForm, by rw [dDiv, if_neg hok], by simp [dForm], ?_, ?_⟩
    · refine Ev.step 2 (fun k => F22_eq k _ _ _ _ _ _ _ _) (Ev.bind (decs_ev n1 l1 _ n2 l2 _ h1 h2) ?_)
      cases c : (decOk n1 l1 s1 && decOk n2 l2 s2) with
      | false => simp only [Bool.not_false, if_true]; exact Ev.now _
      | true =>
        simp only [Bool.not_true, Bool.false_eq_true, if_false]
        refine Ev.bind (rounds_ev _ _) ?_
        cases c' : (within sc 0 12 && within mode 1 7) with
        | false => simp only [Bool.not_false, if_true]; exact Ev.now _
        | true =>
          rw [Bool.and_eq_true] at c c'
          exact absurd ⟨c.1, c.2, c'.1, c'.2⟩ hok
    · refine Ev.step 2 (fun k => F23_eq k _ _ _ _ _ _ _ _) (Ev.bind (l2Ok_ev n1 l1 _ h1) ?_)
      cases c1 : decOk n1 l1 s1 with
      | false => simp only [Bool.not_false, if_true]; exact Ev.now _
      | true =>
        simp only [Bool.not_true, Bool.false_eq_true, if_false]
        refine Ev.bind (l2Ok_ev n2 l2 _ h2) ?_
        cases c2 : decOk n2 l2 s2 with
        | false => simp only [Bool.not_false, if_true]; exact Ev.now _
        | true =>
          simp only [Bool.not_true, Bool.false_eq_true, if_false]
          refine Ev.bind (l1In_ev _ 0 12) ?_
          cases c3 : within sc 0 12 with
          | false => simp only [Bool.not_false, if_true]; exact Ev.now _
          | true =>
            simp only [Bool.not_true, Bool.false_eq_true, if_false]
            refine Ev.bind (mode_ev mode) ?_
            cases c4 : within mode 1 7 with
            | false => simp only [Bool.not_false, if_true]; exact Ev.now _
            | true => exact absurd ⟨c1, c2, c3, c4⟩ hok
end
end Go.Proofs.YtennmjbdmglebaaGreatDoor.R
end

section
/-! Rf: products of decimals. -/
set_option autoImplicit false
set_option linter.unusedSimpArgs false
set_option linter.unusedVariables false
namespace Go.Proofs.YtennmjbdmglebaaGreatDoor.R
open Go.Rf
theorem sMul_ev {na nb : Bool} {a b : List Int} (ha : InR a) (hb : InR b) (la : a.length ≤ 100000) (lb : b.length ≤ 100000) : Ev (fun k => F53 k na a nb b) (((!(na == nb), digs (VI a * VI b).toNat, ()), ()), (((), (), ()), ((), (), ()), ())) :=
  Ev.step 2 (fun k => F53_eq k _ _ _ _) (Ev.bind (mul_ev ha hb la lb) (Ev.now _))
def dMul (n1 : Bool) (l1 : List Int) (s1 : Int) (n2 : Bool) (l2 : List Int) (s2 : Int) : (Bool × List Int × Int × Unit) × Int × Unit := if decOk n1 l1 s1 = true ∧ decOk n2 l2 s2 = true then
  (if s1 + s2 > 12 then made (!(n1 == n2)) (rquo (!(n1 == n2)) (num l1 * num l2) (10 ^ (s1.toNat + s2.toNat - 12)) 7) 12 else made (!(n1 == n2)) (num l1 * num l2) (s1 + s2)) else dForm
section
variable (n1 : Bool) (l1 : List Int) (s1 : Int) (n2 : Bool) (l2 : List Int) (s2 : Int)
end
end Go.Proofs.YtennmjbdmglebaaGreatDoor.R
end

section
/-! Rf, decimals: sums and differences, on both sides. -/
set_option autoImplicit false
set_option linter.unusedSimpArgs false
namespace Go.Proofs.YtennmjbdmglebaaGreatDoor.R
open Go.Rf
theorem made_len {neg : Bool} {n : Nat} {s : Int} (h : (digs n).length ≤ 100) : (made neg n s).1.2.1.length ≤ 1000 := by
  unfold made
  split
  · show ([] : List Int).length ≤ 1000
    simp
  · show (digs n).length ≤ 1000
    omega
theorem sSum_zero {na nb : Bool} {A : Nat} : sSum na A nb 0 = (na, A) := by
  unfold sSum
  split
  · rfl
  · rw [if_pos (Nat.zero_le _)]
    rfl
section
variable (n1 : Bool) (l1 : List Int) (s1 : Int) (n2 : Bool) (l2 : List Int) (s2 : Int)
/-- the sum of decimals; nb: the second's sign (turned where they are taken from each other) -/
def dSum (n1 : Bool) (l1 : List Int) (s1 : Int) (n2 : Bool) (l2 : List Int) (s2 : Int) (nb : Bool) : (Bool × List Int × Int × Unit) × Int × Unit := if decOk n1 l1 s1 = true ∧ decOk n2 l2 s2 = true then
  made (sSum n1 (num l1 * 10 ^ (max s1.toNat s2.toNat - s1.toNat)) nb (num l2 * 10 ^ (max s1.toNat s2.toNat - s2.toNat))).1 (sSum n1 (num l1 * 10 ^ (max s1.toNat s2.toNat - s1.toNat)) nb (num l2 * 10 ^ (max s1.toNat s2.toNat - s2.toNat))).2 ((max s1.toNat s2.toNat : Nat) : Int) else ((false, [], 0, ()), 1, ())
end
end Go.Proofs.YtennmjbdmglebaaGreatDoor.R
end

section
/-! Rf: decimals as whole numbers with a scale. -/
set_option autoImplicit false
set_option linter.unusedSimpArgs false
set_option linter.unusedVariables false
namespace Go.Proofs.YtennmjbdmglebaaGreatDoor.R
open Go.Rf
/-! ### figures -/
theorem decDigits_le : ∀ (k u : Nat), (Lib.decDigits u).length ≤ k + 1 → u < 10 ^ (k + 1)
  | 0, u, h => by
    by_cases hu : u < 10
    · simpa using hu
    · rw [Lib.decDigits, dif_neg hu, List.length_append] at h
      have : 0 < (Lib.decDigits (u / 10)).length := by
        rw [Lib.decDigits]; split <;> simp
      simp only [List.length_singleton] at h; omega
  | k + 1, u, h => by
    by_cases hu : u < 10
    · have : (1 : Nat) ≤ 10 ^ (k + 1) := Nat.pow_pos (by omega)
      rw [Nat.pow_succ]; omega
    · rw [Lib.decDigits, dif_neg hu, List.length_append] at h
      have := decDigits_le k (u / 10) (by simpa using h)
      rw [Nat.pow_succ]; omega
theorem dd1 {n : Nat} (h : n < 10) : Lib.decDigits n = [UInt8.ofNat (48 + n)] := by rw [Lib.decDigits, dif_pos h]
theorem ddS {n : Nat} (h : ¬ n < 10) : Lib.decDigits n = Lib.decDigits (n / 10) ++ [UInt8.ofNat (48 + n % 10)] := by rw [Lib.decDigits, dif_neg h]
theorem fig4_nat {n : Nat} (h : n < 10000) : fig4 (n : Int) = [UInt8.ofNat (48 + n / 1000), UInt8.ofNat (48 + n / 100 % 10), UInt8.ofNat (48 + n / 10 % 10), UInt8.ofNat (48 + n % 10)] := by
  rw [fig4, itoa_nat]
  by_cases h1 : n < 10
  · rw [dd1 h1, show n / 1000 = 0 by omega, show n / 100 = 0 by omega, show n / 10 = 0 by omega, show n % 10 = n by omega]
    rfl
  · by_cases h2 : n < 100
    · rw [ddS h1, dd1 (show n / 10 < 10 by omega), show n / 1000 = 0 by omega, show n / 100 = 0 by omega, show n / 10 % 10 = n / 10 by omega]
      rfl
    · by_cases h3 : n < 1000
      · rw [ddS h1, ddS (show ¬ n / 10 < 10 by omega), dd1 (show n / 10 / 10 < 10 by omega), show n / 1000 = 0 by omega, show n / 10 / 10 = n / 100 by omega, show n / 100 % 10 = n / 100 by omega]
        rfl
      · rw [ddS h1, ddS (show ¬ n / 10 < 10 by omega), ddS (show ¬ n / 10 / 10 < 10 by omega), dd1 (show n / 10 / 10 / 10 < 10 by omega), show n / 10 / 10 / 10 = n / 1000 by omega, show n / 10 / 10 = n / 100 by omega]
        rfl
theorem dd4 {n : Nat} (h : 10000 ≤ n) : Lib.decDigits n = Lib.decDigits (n / 10000) ++ fig4 ((n % 10000 : Nat) : Int) := by
  rw [fig4_nat (Nat.mod_lt _ (by omega)), ddS (show ¬ n < 10 by omega), ddS (show ¬ n / 10 < 10 by omega), ddS (show ¬ n / 10 / 10 < 10 by omega), ddS (show ¬ n / 10 / 10 / 10 < 10 by omega)]
  rw [show n / 10 / 10 / 10 / 10 = n / 10000 by omega, show n / 10 / 10 / 10 % 10 = n % 10000 / 1000 by omega, show n / 10 / 10 % 10 = n % 10000 / 100 % 10 by omega, show n / 10 % 10 = n % 10000 / 10 % 10 by omega, show n % 10 = n % 10000 % 10 by omega]
  simp only [List.append_assoc, List.singleton_append, List.cons_append, List.nil_append]
theorem figs_digs (n : Nat) (h : 0 < n) : figs (digs n) = Lib.decDigits n := by
  induction n using Nat.strongRecOn with
  | _ n ih =>
    rw [digs_pos (by omega)]
    by_cases h2 : n / 10000 = 0
    · rw [h2, digs_zero]
      show Lib.itoa _ = _
      rw [itoa_nat, show n % 10000 = n by omega]
    · have := ih (n / 10000) (by omega) (by omega)
      rw [dd4 (by omega), ← this]
      rw [digs_pos h2]
      rfl
theorem textL_digs (n : Nat) : textL (digs n) = ⟨(Lib.decDigits n).toArray⟩ := by
  by_cases h : n = 0
  · subst h
    rw [digs_zero, dd1 (by omega)]
    rfl
  · rw [textL_pos (by rw [digs_pos h]; simp), figs_digs n (by omega)]
theorem long_digs (n : Nat) : long (digs n) = if n = 0 then 0 else ((Lib.decDigits n).length : Int) := by
  unfold long
  by_cases h : n = 0
  · subst h; rw [digs_zero]; rfl
  · rw [if_neg h, if_neg (by rw [digs_pos h]; simp), textL_digs]
    rfl
theorem long30 (n : Nat) : long (digs n) > 30 ↔ ¬ n < 10 ^ 30 := by
  rw [long_digs]
  have h1 := decDigits_le 29 n
  have h2 := decDigits_len 29 n
  have h3 : (0 : Nat) < 10 ^ 30 := Nat.pow_pos (by omega)
  split
  · subst_vars
    constructor
    · intro h; omega
    · intro h; omega
  · constructor
    · intro h h'
      have := h2 h'
      omega
    · intro h
      have : ¬ (Lib.decDigits n).length ≤ 29 + 1 := fun h' => h (h1 h')
      omega
theorem lt30_16 {n : Nat} (h : n < 10 ^ 30) : n < 10000 ^ 16 := by
  have : (10 : Nat) ^ 30 < 10000 ^ 16 := by decide
  omega
theorem len16 {n : Nat} (h : n < 10 ^ 30) : (digs n).length ≤ 16 := digs_len_le (lt30_16 h)
theorem num_digs (n : Nat) : num (digs n) = n := by unfold num; rw [VI_digs]; rfl
/-! ### decimals -/
def sg (n : Bool) (A : Nat) : Int := if n = true then -(A : Int) else A
def D (z : Int) (s : Nat) : Bool × List Int × Int × Unit := (decide (z < 0), digs z.natAbs, (s : Int), ())
def mk (z : Int) (s : Nat) : (Bool × List Int × Int × Unit) × Int × Unit := if z.natAbs < 10 ^ 30 then (D z s, 0, ()) else ((false, [], 0, ()), 3, ())
theorem D_zero : D 0 0 = (false, [], 0, ()) := by
  unfold D
  rw [show (0 : Int).natAbs = 0 from rfl, digs_zero]
  rfl
theorem bOk_digs (z : Int) (h : z.natAbs < 10000 ^ 16) : bOk (decide (z < 0)) (digs z.natAbs) = true := by
  unfold bOk lastOk
  have h1 := digs_len_le h
  have h2 := digs_spec z.natAbs
  simp only [Bool.and_eq_true, decide_eq_true_eq]
  refine ⟨⟨h1, rangeOk_iff.2 h2.1⟩, ?_⟩
  by_cases h0 : z = 0
  · subst h0; rw [show (0 : Int).natAbs = 0 from rfl, digs_zero]; rfl
  · have hne : digs z.natAbs ≠ [] := fun e => h0 (by rw [digs_nil] at e; omega)
    rw [if_neg (fun e => hne (List.length_eq_zero_iff.1 e))]
    rcases h2.2.1 with h3 | h3
    · exact absurd h3 hne
    · exact bne_iff_ne.2 h3
theorem decOk_D {z : Int} {s : Nat} (h : z.natAbs < 10 ^ 30) (hs : s ≤ 12) : decOk (decide (z < 0)) (digs z.natAbs) (s : Int) = true := by
  unfold decOk
  rw [bOk_digs z (lt30_16 h), Bool.true_and, Bool.and_eq_true, decide_eq_true_eq]
  refine ⟨?_, ?_⟩
  · have h5 : ¬ long (digs z.natAbs) > 30 := fun h' => (long30 z.natAbs).1 h' h
    omega
  · unfold within
    simp; omega
theorem bOk_ex {n : Bool} {l : List Int} (h : bOk n l = true) : ∃ z : Int, n = decide (z < 0) ∧ l = digs z.natAbs ∧ z.natAbs < 10000 ^ 16 := by
  obtain ⟨h16, hr, ht, h0⟩ := bOk_of h
  refine ⟨sg n (num l), ?_, ?_, ?_⟩
  · unfold sg
    cases n with
    | false => simp
    | true =>
      have : l ≠ [] := fun e => by have := h0 e; cases this
      have := VI_pos hr ht this
      have h3 := num_spec hr
      simp; omega
  · have : (sg n (num l)).natAbs = num l := by unfold sg; split <;> omega
    rw [this, digs_num hr ht]
  · have : (sg n (num l)).natAbs = num l := by unfold sg; split <;> omega
    rw [this]
    have h1 := VI_lt hr
    rw [num_spec hr] at h1
    have h2 : num l < 10000 ^ l.length := by
      have : ((num l : Nat) : Int) < ((10000 ^ l.length : Nat) : Int) := by rw [Int.natCast_pow]; exact h1
      omega
    have h3 : 10000 ^ l.length ≤ 10000 ^ 16 := Nat.pow_le_pow_right (by omega) h16
    omega
theorem decOk_ex {n : Bool} {l : List Int} {s : Int} (h : decOk n l s = true) : ∃ (z : Int) (t : Nat), n = decide (z < 0) ∧ l = digs z.natAbs ∧ s = (t : Int) ∧ z.natAbs < 10 ^ 30 ∧ t ≤ 12 := by
  obtain ⟨h1, h2, t, h3, h4⟩ := decOk_of h
  obtain ⟨z, rfl, rfl, _⟩ := bOk_ex h1
  refine ⟨z, t, rfl, rfl, h3, ?_, h4⟩
  have h5 : ¬ ¬ z.natAbs < 10 ^ 30 := fun h' => by have := (long30 z.natAbs).2 h'; omega
  exact Decidable.not_not.1 h5
theorem sg_abs (n : Bool) (A : Nat) : (sg n A).natAbs = A := by unfold sg; split <;> omega
theorem made_mk (n : Bool) (A s : Nat) : made n A (s : Int) = mk (sg n A) s := by
  unfold made mk
  rw [sg_abs]
  have h := long30 A
  by_cases hA : A < 10 ^ 30
  · rw [if_neg (fun h' => h.1 h' hA), if_pos hA]
    unfold D
    rw [sg_abs, len_gt]
    have : (n && decide (A ≠ 0)) = decide (sg n A < 0) := by
      unfold sg
      cases n with
      | false => simp
      | true =>
        simp only [Bool.true_and, if_true]
        congr 1
        exact propext ⟨fun h => by omega, fun h => by omega⟩
    rw [this]
  · rw [if_pos (h.2 hA), if_neg hA]
theorem sg_sum (na : Bool) (A : Nat) (nb : Bool) (B : Nat) : sg (sSum na A nb B).1 (sSum na A nb B).2 = sg na A + sg nb B := by
  unfold sSum
  split
  · subst_vars
    unfold sg
    split <;> simp <;> omega
  · split
    · rename_i h1 h2
      unfold sg
      cases na <;> cases nb <;> simp_all <;> omega
    · rename_i h1 h2
      unfold sg
      cases na <;> cases nb <;> simp_all <;> omega
theorem sg_D (z : Int) : sg (decide (z < 0)) z.natAbs = z := by
  unfold sg
  by_cases h : z < 0
  · rw [if_pos (decide_eq_true h)]; omega
  · rw [if_neg (by simpa using h)]; omega
theorem sg_Dn (z : Int) : sg (!decide (z < 0)) z.natAbs = -z := by
  unfold sg
  by_cases h : z < 0
  · rw [decide_eq_true h]; simp; omega
  · rw [decide_eq_false h]; simp; omega
theorem sg_mul (n : Bool) (A k : Nat) : sg n (A * k) = sg n A * k := by
  unfold sg
  split
  · rw [Int.natCast_mul, Int.neg_mul]
  · rw [Int.natCast_mul]
theorem dSum_D {z1 z2 : Int} {s1 s2 : Nat} (h1 : z1.natAbs < 10 ^ 30) (h2 : z2.natAbs < 10 ^ 30) (t1 : s1 ≤ 12) (t2 : s2 ≤ 12) :
    dSum (decide (z1 < 0)) (digs z1.natAbs) (s1 : Int) (decide (z2 < 0)) (digs z2.natAbs) (s2 : Int) (decide (z2 < 0)) = mk (z1 * 10 ^ (max s1 s2 - s1) + z2 * 10 ^ (max s1 s2 - s2)) (max s1 s2) := by
  unfold dSum
  rw [if_pos ⟨decOk_D h1 t1, decOk_D h2 t2⟩, Int.toNat_natCast, Int.toNat_natCast, made_mk, sg_sum, sg_mul, sg_mul, num_digs, num_digs, sg_D, sg_D]
  simp only [Int.natCast_pow]
  rfl
theorem dSub_D {z1 z2 : Int} {s1 s2 : Nat} (h1 : z1.natAbs < 10 ^ 30) (h2 : z2.natAbs < 10 ^ 30) (t1 : s1 ≤ 12) (t2 : s2 ≤ 12) :
    dSum (decide (z1 < 0)) (digs z1.natAbs) (s1 : Int) (decide (z2 < 0)) (digs z2.natAbs) (s2 : Int) (!decide (z2 < 0)) = mk (z1 * 10 ^ (max s1 s2 - s1) - z2 * 10 ^ (max s1 s2 - s2)) (max s1 s2) := by
  unfold dSum
  rw [if_pos ⟨decOk_D h1 t1, decOk_D h2 t2⟩, Int.toNat_natCast, Int.toNat_natCast, made_mk, sg_sum, sg_mul, sg_mul, num_digs, num_digs, sg_D, sg_Dn]
  simp only [Int.natCast_pow, Int.neg_mul]
  rfl
def cmpZ (x y : Int) : Int := if x < y then -1 else if x = y then 0 else 1
theorem sCmp_sg {na nb : Bool} {A B : Nat} (ha : na = true → 0 < A) (hb : nb = true → 0 < B) : sCmp na A nb B = cmpZ (sg na A) (sg nb B) := by
  unfold sCmp cmpZ sg cmpI
  cases na <;> cases nb <;> simp at ha hb ⊢ <;> (repeat' split) <;> omega
theorem pow10_pos (k : Nat) : (0 : Int) < 10 ^ k := Int.pow_pos (by omega)
theorem dCmp_D {z1 z2 : Int} {s1 s2 : Nat} : dCmp (decide (z1 < 0)) (digs z1.natAbs) s1 (decide (z2 < 0)) (digs z2.natAbs) s2 = cmpZ (z1 * 10 ^ (max s1 s2 - s1)) (z2 * 10 ^ (max s1 s2 - s2)) := by
  unfold dCmp
  rw [num_digs, num_digs, sCmp_sg, sg_mul, sg_mul, sg_D, sg_D]
  · simp only [Int.natCast_pow]; rfl
  · intro h
    have : z1 < 0 := by simpa using h
    exact Nat.mul_pos (by omega) (Nat.pow_pos (by omega))
  · intro h
    have : z2 < 0 := by simpa using h
    exact Nat.mul_pos (by omega) (Nat.pow_pos (by omega))
/-- a quotient that is rounded, with sign -/
def rdiv (mode : Int) (z : Int) (d : Nat) : Int := sg (decide (z < 0)) (rquo (decide (z < 0)) z.natAbs d mode)
theorem dRound_D {z : Int} {s sc : Nat} {mode : Int} (h : z.natAbs < 10 ^ 30) (t : s ≤ 12) (hc : sc ≤ 12) (hm : 1 ≤ mode ∧ mode ≤ 7) :
    dRound (decide (z < 0)) (digs z.natAbs) (s : Int) (sc : Int) mode = if s ≤ sc then mk (z * 10 ^ (sc - s)) sc else mk (rdiv mode z (10 ^ (s - sc))) sc := by
  unfold dRound
  rw [if_pos ⟨decOk_D h t, by unfold within; simp; omega, by unfold within; simp; omega⟩, Int.toNat_natCast, Int.toNat_natCast]
  split
  · rw [made_mk, sg_mul, num_digs, sg_D]
    simp only [Int.natCast_pow]; rfl
  · rw [made_mk, num_digs]
    rfl
theorem sg_neg_zero (n : Bool) : sg n 0 = 0 := by unfold sg; split <;> rfl
theorem rquo_zero (n : Bool) (d : Nat) (mode : Int) : rquo n 0 d mode = 0 := by unfold rquo; simp
theorem neg_mul_lt {x y : Int} (hx : x < 0) (hy : 0 < y) : x * y < 0 := Int.mul_neg_of_neg_of_pos hx hy
/-- the sign of a product -/
theorem mul_neg (x y : Int) (h : x * y ≠ 0) : (!(decide (x < 0) == decide (y < 0))) = decide (x * y < 0) := by
  have hx : x ≠ 0 := fun e => h (by rw [e]; simp)
  have hy : y ≠ 0 := fun e => h (by rw [e]; simp)
  by_cases h1 : x < 0 <;> by_cases h2 : y < 0
  · have := Int.mul_pos_of_neg_of_neg h1 h2
    simp [h1, h2]; omega
  · have := Int.mul_neg_of_neg_of_pos h1 (show 0 < y by omega)
    simp [h1, h2]; omega
  · have := Int.mul_neg_of_pos_of_neg (show 0 < x by omega) h2
    simp [h1, h2]; omega
  · have := Int.mul_pos (show 0 < x by omega) (show 0 < y by omega)
    simp [h1, h2]; omega
theorem sg_prod (x y : Int) : sg (!(decide (x < 0) == decide (y < 0))) (x.natAbs * y.natAbs) = x * y := by
  rw [← Int.natAbs_mul]
  by_cases h : x * y = 0
  · rw [h]; exact sg_neg_zero _
  · rw [mul_neg x y h, sg_D]
theorem rdiv_prod (x y : Int) (d : Nat) (mode : Int) : sg (!(decide (x < 0) == decide (y < 0))) (rquo (!(decide (x < 0) == decide (y < 0))) (x.natAbs * y.natAbs) d mode) = rdiv mode (x * y) d := by
  rw [← Int.natAbs_mul]
  by_cases h : x * y = 0
  · rw [h]
    unfold rdiv
    rw [show (0 : Int).natAbs = 0 from rfl, rquo_zero, rquo_zero, sg_neg_zero, sg_neg_zero]
  · rw [mul_neg x y h]
    rfl
theorem dMul_D {z1 z2 : Int} {s1 s2 : Nat} (h1 : z1.natAbs < 10 ^ 30) (h2 : z2.natAbs < 10 ^ 30) (t1 : s1 ≤ 12) (t2 : s2 ≤ 12) :
    dMul (decide (z1 < 0)) (digs z1.natAbs) (s1 : Int) (decide (z2 < 0)) (digs z2.natAbs) (s2 : Int) = if s1 + s2 > 12 then mk (rdiv 7 (z1 * z2) (10 ^ (s1 + s2 - 12))) 12 else mk (z1 * z2) (s1 + s2) := by
  unfold dMul
  rw [if_pos ⟨decOk_D h1 t1, decOk_D h2 t2⟩, Int.toNat_natCast, Int.toNat_natCast, num_digs, num_digs]
  by_cases h : s1 + s2 > 12
  · rw [if_pos (by omega), if_pos h, show (12 : Int) = ((12 : Nat) : Int) from rfl, made_mk, rdiv_prod]
  · rw [if_neg (by omega), if_neg h, ← Int.natCast_add, made_mk, sg_prod]
theorem trimN_spec : ∀ (s V : Nat), (trimN V s).2 ≤ s ∧ (trimN V s).1 * 10 ^ (s - (trimN V s).2) = V ∧ ((trimN V s).2 = 0 ∨ (trimN V s).1 % 10 ≠ 0)
  | 0, V => by simp [trimN]
  | s + 1, V => by
    rw [trimN]
    split
    · obtain ⟨h1, h2, h3⟩ := trimN_spec s (V / 10)
      refine ⟨by omega, ?_, h3⟩
      rw [show s + 1 - (trimN (V / 10) s).2 = (s - (trimN (V / 10) s).2) + 1 by omega, Nat.pow_succ, ← Nat.mul_assoc, h2]
      omega
    · exact ⟨Nat.le_refl _, by simp, .inr (by assumption)⟩
theorem trimN_same {s V : Nat} (h : s = 0 ∨ V % 10 ≠ 0) : trimN V s = (V, s) := by
  cases s with
  | zero => rfl
  | succ s =>
    rw [trimN, if_neg (by omega)]
theorem dTrim_D {z : Int} {s : Nat} (h : z.natAbs < 10 ^ 30) (t : s ≤ 12) : ∃ (y : Int) (r : Nat), dTrim (decide (z < 0)) (digs z.natAbs) (s : Int) = D y r ∧ y.natAbs < 10 ^ 30 ∧ r ≤ s ∧ y * 10 ^ (s - r) = z ∧ (r = 0 ∨ y % 10 ≠ 0) := by
  obtain ⟨h1, h2, h3⟩ := trimN_spec s z.natAbs
  refine ⟨sg (decide (z < 0)) (trimN z.natAbs s).1, (trimN z.natAbs s).2, ?_, ?_, h1, ?_, ?_⟩
  · unfold dTrim
    rw [if_pos (decOk_D h t), Int.toNat_natCast, num_digs]
    unfold D
    rw [sg_abs]
    refine Prod.ext ?_ rfl
    show decide (z < 0) = decide (sg _ _ < 0)
    unfold sg
    by_cases hz : z < 0
    · have : (trimN z.natAbs s).1 ≠ 0 := fun e => by rw [e, Nat.zero_mul] at h2; omega
      simp [hz]; omega
    · simp [hz]
  · rw [sg_abs]
    have : (trimN z.natAbs s).1 ≤ z.natAbs := by
      conv => rhs; rw [← h2]
      exact Nat.le_mul_of_pos_right _ (Nat.pow_pos (by omega))
    omega
  · have : sg (decide (z < 0)) ((trimN z.natAbs s).1 * 10 ^ (s - (trimN z.natAbs s).2)) = z := by rw [h2, sg_D]
    rw [sg_mul, Int.natCast_pow] at this
    exact this
  · rcases h3 with h3 | h3
    · exact .inl h3
    · right
      unfold sg
      split <;> omega
theorem dTrim_same {z : Int} {s : Nat} (h : z.natAbs < 10 ^ 30) (t : s ≤ 12) (h3 : s = 0 ∨ z % 10 ≠ 0) : dTrim (decide (z < 0)) (digs z.natAbs) (s : Int) = D z s := by
  unfold dTrim
  rw [if_pos (decOk_D h t), Int.toNat_natCast, num_digs, trimN_same (by rcases h3 with h3 | h3; exact .inl h3; right; omega)]
  rfl
end Go.Proofs.YtennmjbdmglebaaGreatDoor.R
end

section
/-! Rf: the program's own sums, products and comparisons of big numbers. -/
set_option autoImplicit false
set_option linter.unusedSimpArgs false
set_option linter.unusedVariables false
namespace Go.Proofs.YtennmjbdmglebaaGreatDoor.R
open Go.Rf
theorem bigs_ev {x y : Int} (hx : x.natAbs < 10000 ^ 16) (hy : y.natAbs < 10000 ^ 16) : Ev (fun k => F59 k (decide (x < 0)) (digs x.natAbs) (decide (y < 0)) (digs y.natAbs)) ((true, ()), (((), (), ()), ((), (), ()), ())) := by
  have l1 := digs_len_le hx
  have l2 := digs_len_le hy
  have o1 := BigOk_ev (decide (x < 0)) (digs x.natAbs) (by omega)
  have o2 := BigOk_ev (decide (y < 0)) (digs y.natAbs) (by omega)
  rw [bOk_digs x hx] at o1
  rw [bOk_digs y hy] at o2
  refine Ev.step 2 (fun k => F59_eq k _ _ _ _) (Ev.bind o1 ?_)
  simp only [if_true]
  exact Ev.bind o2 (Ev.now _)
theorem bigZ {n : Bool} {A : Nat} {z : Int} (e : sg n A = z) (hz : z.natAbs < 10000 ^ 16) : Ev (fun k => F49 k n (digs A)) (((decide (z < 0), digs z.natAbs, ()), true, ()), ((), (), ())) := by
  have ea : z.natAbs = A := by rw [← e, sg_abs]
  have hl : (digs A).length ≤ 16 := by rw [← ea]; exact digs_len_le hz
  have := big_ev (neg := n) hl
  have en : (n && decide (A ≠ 0)) = decide (z < 0) := by
    rw [← e]
    unfold sg
    cases n
    · rw [Bool.false_and, if_neg (by simp)]
      exact (decide_eq_false (by omega)).symm
    · rw [Bool.true_and, if_pos rfl, decide_eq_decide]
      omega
  rw [en] at this
  rw [ea]
  exact this
theorem bigMulZ {x y : Int} (hx : x.natAbs < 10000 ^ 16) (hy : y.natAbs < 10000 ^ 16) (hz : (x * y).natAbs < 10000 ^ 16) : Ev (fun k => F25 k (decide (x < 0)) (digs x.natAbs) (decide (y < 0)) (digs y.natAbs)) (((decide (x * y < 0), digs (x * y).natAbs, ()), true, ()), (((), (), ()), ((), (), ()), ())) := by
  have l1 := digs_len_le hx
  have l2 := digs_len_le hy
  have m := sMul_ev (na := decide (x < 0)) (nb := decide (y < 0)) (digs_InR x.natAbs) (digs_InR y.natAbs) (by omega) (by omega)
  have e : (VI (digs x.natAbs) * VI (digs y.natAbs)).toNat = x.natAbs * y.natAbs := by rw [VI_digs, VI_digs, ← Int.natCast_mul, Int.toNat_natCast]
  rw [e] at m
  refine Ev.step 2 (fun k => F25_eq k _ _ _ _) (Ev.bind (bigs_ev hx hy) ?_)
  simp only [Bool.not_true, Bool.false_eq_true, if_false]
  exact Ev.bind (signed_ev _ _) (Ev.bind (signed_ev _ _) (Ev.bind m (Ev.bind (bigZ (sg_prod x y) hz) (Ev.now _))))
theorem bigAddZ {x y : Int} (hx : x.natAbs < 10000 ^ 16) (hy : y.natAbs < 10000 ^ 16) (hz : (x + y).natAbs < 10000 ^ 16) : Ev (fun k => F27 k (decide (x < 0)) (digs x.natAbs) (decide (y < 0)) (digs y.natAbs)) (((decide (x + y < 0), digs (x + y).natAbs, ()), true, ()), (((), (), ()), ((), (), ()), ())) := by
  have l1 := digs_len_le hx
  have l2 := digs_len_le hy
  have m := sAdd_ev (na := decide (x < 0)) (nb := decide (y < 0)) (A := x.natAbs) (B := y.natAbs) (by omega) (by omega)
  refine Ev.step 2 (fun k => F27_eq k _ _ _ _) (Ev.bind (bigs_ev hx hy) ?_)
  simp only [Bool.not_true, Bool.false_eq_true, if_false]
  exact Ev.bind (signed_ev _ _) (Ev.bind (signed_ev _ _) (Ev.bind m (Ev.bind (bigZ (by rw [sg_sum, sg_D, sg_D]) hz) (Ev.now _))))
theorem bigSubZ {x y : Int} (hx : x.natAbs < 10000 ^ 16) (hy : y.natAbs < 10000 ^ 16) (hz : (x - y).natAbs < 10000 ^ 16) : Ev (fun k => F26 k (decide (x < 0)) (digs x.natAbs) (decide (y < 0)) (digs y.natAbs)) (((decide (x - y < 0), digs (x - y).natAbs, ()), true, ()), (((), (), ()), ((), (), ()), ())) := by
  have l1 := digs_len_le hx
  have l2 := digs_len_le hy
  have m := sAdd_ev (na := decide (x < 0)) (nb := !decide (y < 0)) (A := x.natAbs) (B := y.natAbs) (by omega) (by omega)
  refine Ev.step 2 (fun k => F26_eq k _ _ _ _) (Ev.bind (bigs_ev hx hy) ?_)
  simp only [Bool.not_true, Bool.false_eq_true, if_false]
  exact Ev.bind (signed_ev _ _) (Ev.bind (signed_ev _ _) (Ev.bind (Ev.step 2 (fun k => F48_eq k _ _) (Ev.now _)) (Ev.bind m (Ev.bind (bigZ (by rw [sg_sum, sg_D, sg_Dn]; omega) hz) (Ev.now _)))))
theorem bigCmpZ {x y : Int} (hx : x.natAbs < 10000 ^ 16) (hy : y.natAbs < 10000 ^ 16) : Ev (fun k => F28 k (decide (x < 0)) (digs x.natAbs) (decide (y < 0)) (digs y.natAbs)) ((cmpZ x y, ()), (((), (), ()), ((), (), ()), ())) := by
  have l1 := digs_len_le hx
  have l2 := digs_len_le hy
  have m := sAdd_ev (na := decide (x < 0)) (nb := !decide (y < 0)) (A := x.natAbs) (B := y.natAbs) (by omega) (by omega)
  have e : sg (sSum (decide (x < 0)) x.natAbs (!decide (y < 0)) y.natAbs).1 (sSum (decide (x < 0)) x.natAbs (!decide (y < 0)) y.natAbs).2 = x - y := by rw [sg_sum, sg_D, sg_Dn]; omega
  have s := sign_ev (neg := (sSum (decide (x < 0)) x.natAbs (!decide (y < 0)) y.natAbs).1) (A := (sSum (decide (x < 0)) x.natAbs (!decide (y < 0)) y.natAbs).2)
  have es : (if (sSum (decide (x < 0)) x.natAbs (!decide (y < 0)) y.natAbs).2 = 0 then 0 else if (sSum (decide (x < 0)) x.natAbs (!decide (y < 0)) y.natAbs).1 = true then -1 else 1 : Int) = cmpZ x y := by
    generalize sSum (decide (x < 0)) x.natAbs (!decide (y < 0)) y.natAbs = p at e
    obtain ⟨n, A⟩ := p
    unfold sg at e
    unfold cmpZ
    cases n
    · simp at e ⊢
      by_cases h : A = 0
      · rw [if_pos h, if_neg (by omega), if_pos (by omega)]
      · rw [if_neg h, if_neg (by omega), if_neg (by omega)]
    · simp at e ⊢
      by_cases h : A = 0
      · rw [if_pos h, if_neg (by omega), if_pos (by omega)]
      · rw [if_neg h, if_pos (by omega)]
  rw [es] at s
  refine Ev.step 2 (fun k => F28_eq k _ _ _ _) (Ev.bind (bigs_ev hx hy) ?_)
  simp only [Bool.not_true, Bool.false_eq_true, if_false]
  exact Ev.bind (signed_ev _ _) (Ev.bind (signed_ev _ _) (Ev.bind (Ev.step 2 (fun k => F48_eq k _ _) (Ev.now _)) (Ev.bind m (Ev.bind s (Ev.now _)))))
theorem natNeg (n : Nat) : decide ((n : Int) < 0) = false := decide_eq_false (by omega)
theorem bigTenZ {n : Nat} (hn : n ≤ 28) : Ev (fun k => F24 k (n : Int)) (((decide (((10 ^ n : Nat) : Int) < 0), digs ((10 ^ n : Nat) : Int).natAbs, ()), true, ()), ((), ())) := by
  have h8 := ten_lt (m := n) hn
  have h16 : (10000 : Nat) ^ 8 < 10000 ^ 16 := by decide
  have w : within (n : Int) 0 63 = true := by unfold within; simp; omega
  have i := in_ev (n : Int) 0 63
  rw [w] at i
  refine Ev.step 2 (fun k => F24_eq k _) (Ev.bind i ?_)
  simp only [Bool.not_true, Bool.false_eq_true, if_false]
  exact Ev.bind (ten_ev n (by omega)) (Ev.bind (bigZ (n := false) (z := ((10 ^ n : Nat) : Int)) (by unfold sg; simp) (by rw [Int.natAbs_natCast]; omega)) (Ev.now _))
/-! ### how far a rounded quotient lies off -/
theorem rquo_off {neg : Bool} {V d : Nat} {m : Int} (hd : 0 < d) : ((V : Int) - (rquo neg V d m : Nat) * d).natAbs < d ∧ (5 ≤ m → m ≤ 7 → 2 * ((V : Int) - (rquo neg V d m : Nat) * d).natAbs ≤ d) := by
  have h1 := Nat.div_add_mod V d
  have h2 := Nat.mod_lt V hd
  have hc : (V : Int) = (V / d : Nat) * d + (V % d : Nat) := by
    rw [← Int.natCast_mul, ← Int.natCast_add, Nat.mul_comm, h1]
  unfold rquo
  by_cases h0 : V % d = 0
  · rw [if_pos h0, hc, h0]
    constructor
    · rw [show ((V / d : Nat) : Int) * d + ((0 : Nat) : Int) - (V / d : Nat) * d = 0 by omega]; exact hd
    · intro _ _
      rw [show ((V / d : Nat) : Int) * d + ((0 : Nat) : Int) - (V / d : Nat) * d = 0 by omega]; exact Nat.zero_le _
  rw [if_neg h0]
  by_cases hr : rmore m neg (decide (V / d % 2 = 1)) (cmpI (V % d + V % d) d) = true
  · rw [if_pos hr]
    have e : ((V : Int) - ((V / d + 1 : Nat) : Int) * d).natAbs = d - V % d := by
      rw [hc, Int.natCast_add, Int.add_mul]
      omega
    rw [e]
    refine ⟨by omega, fun h5 h7 => ?_⟩
    have hh : d ≤ V % d + V % d := by
      refine Decidable.by_contra fun hn => ?_
      have hl : cmpI (V % d + V % d) d = -1 := by unfold cmpI; rw [if_pos (by omega)]
      rw [hl] at hr
      unfold rmore at hr
      rw [if_neg (by omega), if_neg (by omega), if_neg (by omega), if_neg (by omega)] at hr
      by_cases c5 : m = 5
      · rw [if_pos c5] at hr; simp at hr
      by_cases c6 : m = 6
      · rw [if_neg c5, if_pos c6] at hr; simp at hr
      · rw [if_neg c5, if_neg c6] at hr; simp at hr
    omega
  · rw [if_neg hr]
    have e : ((V : Int) - ((V / d : Nat) : Int) * d).natAbs = V % d := by
      rw [hc]
      omega
    rw [e]
    refine ⟨h2, fun h5 h7 => ?_⟩
    refine Decidable.by_contra fun hn => hr ?_
    have hl : cmpI (V % d + V % d) d = 1 := by unfold cmpI; rw [if_neg (by omega), if_neg (by omega)]
    rw [hl]
    unfold rmore
    rw [if_neg (by omega), if_neg (by omega), if_neg (by omega), if_neg (by omega)]
    by_cases c5 : m = 5
    · rw [if_pos c5]; simp
    by_cases c6 : m = 6
    · rw [if_neg c5, if_pos c6]; simp
    · rw [if_neg c5, if_neg c6]; simp
end Go.Proofs.YtennmjbdmglebaaGreatDoor.R
end

section
/-! Rf: what the laws draw: numbers and decimals. -/
set_option autoImplicit false
set_option linter.unusedSimpArgs false
set_option linter.unusedVariables false
namespace Go.Proofs.YtennmjbdmglebaaGreatDoor.R
open Go.Rf
/-- a reader's bytes -/
structure Rd (bs : List Int) : Prop where
  len : bs.length ≤ 2000
  b8 : ∀ y ∈ bs, 0 ≤ y ∧ y ≤ 255
theorem xor_small {a b : Int} (ha : 0 ≤ a) (ha2 : a < 4611686018427387904) (hb : 0 ≤ b) (hb2 : b < 4611686018427387904) : 0 ≤ IntKind.i64.wrap (((BitVec.ofInt IntKind.i64.bits a ^^^ BitVec.ofInt IntKind.i64.bits b).toNat : Nat) : Int) := by
  have e : IntKind.i64.bits = 64 := rfl
  have h1 : (BitVec.ofInt IntKind.i64.bits a).toNat < 2 ^ 62 := by
    rw [BitVec.toNat_ofInt, e]
    omega
  have h2 : (BitVec.ofInt IntKind.i64.bits b).toNat < 2 ^ 62 := by
    rw [BitVec.toNat_ofInt, e]
    omega
  have h3 : (BitVec.ofInt IntKind.i64.bits a ^^^ BitVec.ofInt IntKind.i64.bits b).toNat < 2 ^ 62 := by
    rw [BitVec.toNat_xor]
    exact Nat.xor_lt_two_pow h1 h2
  rw [wrap64 (by omega) (by omega)]
  omega
theorem tmod_range {x n : Int} (hx : 0 ≤ x) (hn : 1 ≤ n) : 0 ≤ x.tmod n ∧ x.tmod n < n := by
  rw [Int.tmod_eq_emod_of_nonneg hx]
  exact ⟨Int.emod_nonneg _ (by omega), Int.emod_lt_of_pos _ (by omega)⟩
theorem pick_ev {bs : List Int} (hb : Rd bs) {p : Nat} (hp : p ≤ 1000000000) (n : Int) : ∃ v : Int, (0 ≤ v ∧ (1 ≤ n → v < n) ∧ (n < 1 → v = 0)) ∧ Ev (fun k => F32 k bs (p : Int) n) ((v, ()), ((bs, ((p + 1 : Nat) : Int), ()), (), ())) := by
  have e1 : IntKind.i64.wrap ((p : Int) + 1) = ((p + 1 : Nat) : Int) := wrap_succ (by omega)
  have e2 : IntKind.i64.wrap (((p + 1 : Nat) : Int) - 1) = (p : Int) := by rw [wrap64 (by omega) (by omega)]; omega
  have st : ∀ {r}, Ev (fun _ => if (decide (n < (1 : Int))) = true then some (((0 : Int), ()), ((bs, ((p + 1 : Nat) : Int), ()), (), ())) else if ((bs.length : Int) == (0 : Int)) = true then some (((0 : Int), ()), ((bs, ((p + 1 : Nat) : Int), ()), (), ())) else if (decide ((p : Int) < (bs.length : Int))) = true then if (decide (0 ≤ (p : Int))) = true then (bs[((p : Int)).toNat]?).bind fun y1 => if (!(n == 0)) = true then some ((((IntKind.i64.wrap y1).tmod n), ()), ((bs, ((p + 1 : Nat) : Int), ()), (), ())) else none else none else if (!((bs.length : Int) == 0)) = true then if (decide (0 ≤ ((p : Int).tmod (bs.length : Int)))) = true then (bs[((p : Int).tmod (bs.length : Int)).toNat]?).bind fun y2 => if (!((bs.length : Int) == 0)) = true then if (decide (0 ≤ ((IntKind.i64.wrap ((IntKind.i64.wrap ((p : Int) * (7 : Int))) + (3 : Int))).tmod (bs.length : Int)))) = true then (bs[((IntKind.i64.wrap ((IntKind.i64.wrap ((p : Int) * (7 : Int))) + (3 : Int))).tmod (bs.length : Int)).toNat]?).bind fun y3 => if (!((bs.length : Int) == 0)) = true then if (!(n == 0)) = true then some ((((IntKind.i64.wrap (((BitVec.ofInt IntKind.i64.bits (IntKind.i64.wrap ((IntKind.i64.wrap ((IntKind.i64.wrap ((IntKind.i64.wrap ((IntKind.i64.wrap y2) * (131 : Int))) + (IntKind.i64.wrap ((IntKind.i64.wrap y3) * (1117 : Int))))) + (IntKind.i64.wrap ((p : Int) * (29 : Int))))) + (IntKind.i64.wrap ((IntKind.i64.wrap ((p : Int).tdiv (bs.length : Int))) * (53 : Int))))) ^^^ BitVec.ofInt IntKind.i64.bits (IntKind.i64.wrap ((IntKind.i64.wrap ((IntKind.i64.wrap ((IntKind.i64.wrap ((IntKind.i64.wrap ((IntKind.i64.wrap y2) * (131 : Int))) + (IntKind.i64.wrap ((IntKind.i64.wrap y3) * (1117 : Int))))) + (IntKind.i64.wrap ((p : Int) * (29 : Int))))) + (IntKind.i64.wrap ((IntKind.i64.wrap ((p : Int).tdiv (bs.length : Int))) * (53 : Int))))).tdiv (64 : Int)))).toNat : Int))).tmod n), ()), ((bs, ((p + 1 : Nat) : Int), ()), (), ())) else none else none else none else none else none else none) r → Ev (fun k => F32 k bs (p : Int) n) r := by
    intro r h
    refine Ev.step 2 (fun k => F32_eq k _ _ _) ?_
    simp only [e1, e2]
    exact h
  by_cases h1 : n < 1
  · refine ⟨0, ⟨Int.le_refl _, fun h => by omega, fun _ => rfl⟩, st ?_⟩
    simp only [decide_eq_true h1, if_true]
    exact Ev.now _
  · have hn : (!(n == 0)) = true := by simp; omega
    by_cases h2 : bs.length = 0
    · refine ⟨0, ⟨Int.le_refl _, fun h => by omega, fun _ => rfl⟩, st ?_⟩
      simp only [decide_eq_false h1, Bool.false_eq_true, if_false, h2, Int.ofNat_zero, beq_self_eq_true, if_true]
      exact Ev.now _
    · have hl0 : ((bs.length : Int) == 0) = false := by rw [beq_eq_false_iff_ne]; omega
      by_cases h3 : p < bs.length
      · obtain ⟨y, hy⟩ : ∃ y, bs[p]? = some y := ⟨_, List.getElem?_eq_getElem h3⟩
        have hy8 := hb.b8 y (List.mem_of_getElem? hy)
        have hr := tmod_range (n := n) hy8.1 (by omega)
        refine ⟨y.tmod n, ⟨hr.1, fun _ => hr.2, fun h => by omega⟩, st ?_⟩
        have ey : IntKind.i64.wrap y = y := wrap64 (by omega) (by omega)
        simp only [decide_eq_false h1, Bool.false_eq_true, if_false, hl0, lt_true h3, ge0, if_true, Int.toNat_natCast, hy, Option.bind_some, hn, ey]
        exact Ev.now _
      · have hpos : (0 : Int) < (bs.length : Int) := by omega
        have t1 := tmod_range (x := (p : Int)) (n := (bs.length : Int)) (by omega) (by omega)
        have w7 : IntKind.i64.wrap ((p : Int) * 7) = (p : Int) * 7 := wrap64 (by omega) (by omega)
        have w73 : IntKind.i64.wrap ((p : Int) * 7 + 3) = (p : Int) * 7 + 3 := wrap64 (by omega) (by omega)
        have t2 := tmod_range (x := (p : Int) * 7 + 3) (n := (bs.length : Int)) (by omega) (by omega)
        obtain ⟨y, hy⟩ : ∃ y, bs[((p : Int).tmod (bs.length : Int)).toNat]? = some y := ⟨_, List.getElem?_eq_getElem (by omega)⟩
        obtain ⟨z, hz⟩ : ∃ z, bs[((((p : Int) * 7 + 3)).tmod (bs.length : Int)).toNat]? = some z := ⟨_, List.getElem?_eq_getElem (by omega)⟩
        have hy8 := hb.b8 y (List.mem_of_getElem? hy)
        have hz8 := hb.b8 z (List.mem_of_getElem? hz)
        have ey : IntKind.i64.wrap y = y := wrap64 (by omega) (by omega)
        have ez : IntKind.i64.wrap z = z := wrap64 (by omega) (by omega)
        have d0 : 0 ≤ (p : Int).tdiv (bs.length : Int) ∧ (p : Int).tdiv (bs.length : Int) ≤ (p : Int) := by
          rw [Int.tdiv_eq_ediv_of_nonneg (by omega)]
          exact ⟨Int.ediv_nonneg (by omega) (by omega), Int.ediv_le_self _ (by omega)⟩
        obtain ⟨d, hd⟩ : ∃ d, d = (p : Int).tdiv (bs.length : Int) := ⟨_, rfl⟩
        rw [← hd] at d0
        have w1 : IntKind.i64.wrap (y * 131) = y * 131 := wrap64 (by omega) (by omega)
        have w2 : IntKind.i64.wrap (z * 1117) = z * 1117 := wrap64 (by omega) (by omega)
        have w3 : IntKind.i64.wrap (y * 131 + z * 1117) = y * 131 + z * 1117 := wrap64 (by omega) (by omega)
        have w4 : IntKind.i64.wrap ((p : Int) * 29) = (p : Int) * 29 := wrap64 (by omega) (by omega)
        have w5 : IntKind.i64.wrap (y * 131 + z * 1117 + (p : Int) * 29) = y * 131 + z * 1117 + (p : Int) * 29 := wrap64 (by omega) (by omega)
        have w6 : IntKind.i64.wrap d = d := wrap64 (by omega) (by omega)
        have w8 : IntKind.i64.wrap (d * 53) = d * 53 := wrap64 (by omega) (by omega)
        obtain ⟨X, hX⟩ : ∃ X, X = y * 131 + z * 1117 + (p : Int) * 29 + d * 53 := ⟨_, rfl⟩
        have hX0 : 0 ≤ X ∧ X ≤ 1000000000000 := by omega
        have w9 : IntKind.i64.wrap X = X := wrap64 (by omega) (by omega)
        have q0 : 0 ≤ X.tdiv 64 ∧ X.tdiv 64 ≤ X := by
          rw [Int.tdiv_eq_ediv_of_nonneg (by omega)]
          omega
        have w10 : IntKind.i64.wrap (X.tdiv 64) = X.tdiv 64 := wrap64 (by omega) (by omega)
        have hx := xor_small (a := X) (b := X.tdiv 64) (by omega) (by omega) (by omega) (by omega)
        have hr := tmod_range (n := n) hx (by omega)
        refine ⟨_, ⟨hr.1, fun _ => hr.2, fun h => by omega⟩, st ?_⟩
        simp only [decide_eq_false h1, Bool.false_eq_true, if_false, hl0, lt_false (show bs.length ≤ p by omega), Bool.not_false, if_true, decide_eq_true t1.1, hy, Option.bind_some, w7, w73, decide_eq_true t2.1, hz, hn, ey, ez, w1, w2, w3, w4, w5, ← hd, w6, w8, ← hX, w9, w10]
        exact Ev.now _
theorem one_ev {bs : List Int} (hb : Rd bs) {p : Nat} (hp : p ≤ 1000000000) (l : List Int) (hl : 0 < l.length) : ∃ v ∈ l, Ev (fun k => F31 k bs (p : Int) l) ((v, ()), ((bs, ((p + 1 : Nat) : Int), ()), (), ())) := by
  obtain ⟨v, ⟨h0, h1, _⟩, h2⟩ := pick_ev hb hp (l.length : Int)
  have h1 := h1 (by omega)
  obtain ⟨y, hy⟩ : ∃ y, l[v.toNat]? = some y := ⟨_, List.getElem?_eq_getElem (by omega)⟩
  refine ⟨y, List.mem_of_getElem? hy, Ev.step 2 (fun k => F31_eq k _ _ _) (Ev.bind h2 ?_)⟩
  simp only [decide_eq_true h0, decide_eq_true h1, Bool.and_self, if_true, hy, Option.bind_some]
  exact Ev.now _
/-! ### figures -/
def Fig (s : ByteArray) : Prop := ∀ b ∈ s.data.toList, 48 ≤ b.toNat ∧ b.toNat ≤ 57
theorem Fig.app {s t : ByteArray} (hs : Fig s) (ht : Fig t) : Fig (s ++ t) := by
  intro b hb
  rw [ByteArray.data_append, Array.toList_append, List.mem_append] at hb
  rcases hb with hb | hb
  · exact hs b hb
  · exact ht b hb
theorem fig1 {d : Nat} (h : d < 10) : Fig ⟨[UInt8.ofNat (48 + d)].toArray⟩ := by
  intro b hb
  have hb : b ∈ [UInt8.ofNat (48 + d)] := hb
  rw [List.mem_singleton.1 hb, UInt8.toNat_ofNat']
  omega
theorem size_app (s t : ByteArray) : (s ++ t).size = s.size + t.size := ByteArray.size_append ..
section
variable {bs : List Int} (hb : Rd bs)
include hb
theorem figsI {n : Nat} (hn : n ≤ 64) : ∀ (m p : Nat) (s : ByteArray), s.size + m = max n s.size → p + 2 * m ≤ 1000000 → Fig s → s.size ≤ 64 → ∃ (t : ByteArray) (q : Nat), q ≤ p + 2 * m ∧ Fig t ∧ t.size ≤ 64 ∧ 0 < s.size + t.size + 1 ∧ s.size ≤ t.size ∧
    Ev (fun k => F79c4 k bs (p : Int) (n : Int) s) ((t, ()), ((bs, (q : Int), ()), (), ())) := by
  intro m
  induction m with
  | zero =>
    intro p s hs hp hf h64
    refine ⟨s, p, by omega, hf, h64, by omega, Nat.le_refl _, Ev.step 1 (fun k => F79c4_eq k _ _ _ _) ?_⟩
    simp only [lt_false (show n ≤ s.size by omega), Bool.false_eq_true, if_false]
    exact Ev.now _
  | succ m ih =>
    intro p s hs hp hf h64
    obtain ⟨v1, ⟨a0, a1, _⟩, h1⟩ := pick_ev hb (show p ≤ 1000000000 by omega) 10
    have a1 := a1 (by omega)
    obtain ⟨v2, hm, h2⟩ := one_ev hb (show p + 1 ≤ 1000000000 by omega) [0, 0, 9, 9, 5, 1, v1] (by simp)
    have hv : 0 ≤ v2 ∧ v2 < 10 := by
      simp only [List.mem_cons, List.not_mem_nil, or_false] at hm
      omega
    obtain ⟨d, rfl⟩ : ∃ d : Nat, v2 = (d : Int) := ⟨v2.toNat, by omega⟩
    have hd : d < 10 := by omega
    have hsz : (⟨[UInt8.ofNat (48 + d)].toArray⟩ : ByteArray).size = 1 := rfl
    have hs2 : (s ++ (⟨[UInt8.ofNat (48 + d)].toArray⟩ : ByteArray)).size = s.size + 1 := by rw [size_app, hsz]
    obtain ⟨t, q, hq, ht, ht64, _, hle, hE⟩ := ih (p + 1 + 1) (s ++ (⟨[UInt8.ofNat (48 + d)].toArray⟩ : ByteArray)) (by rw [hs2]; omega) (by omega) (hf.app (fig1 hd)) (by rw [hs2]; omega)
    refine ⟨t, q, by omega, ht, ht64, by omega, by omega, Ev.step 1 (fun k => F79c4_eq k _ _ _ _) ?_⟩
    simp only [lt_true (show s.size < n by omega), if_true]
    refine Ev.bind h1 (Ev.bind h2 ?_)
    simp only [bytesOf_digit hd, hsz]
    have hble : Nat.ble (s.size + 1) 9223372036854775807 = true := Nat.ble_eq_true_of_le (by omega)
    simp only [hble, if_true]
    exact hE
theorem figs_ev {n : Int} (h0 : 0 ≤ n) (hn : n ≤ 64) {p : Nat} (hp : p + 200 ≤ 1000000) : ∃ (t : ByteArray) (q : Nat), q ≤ p + 200 ∧ Fig t ∧ t.size ≤ 64 ∧ Ev (fun k => F79 k bs (p : Int) n) ((t, ()), ((bs, (q : Int), ()), (), ())) := by
  obtain ⟨m, rfl⟩ : ∃ m : Nat, n = (m : Int) := ⟨n.toNat, by omega⟩
  by_cases h1 : m < 1
  · refine ⟨⟨#[48]⟩, p, by omega, fig1 (d := 0) (by omega), by decide, Ev.step 2 (fun k => F79_eq k _ _ _) ?_⟩
    simp only [decide_eq_true (show (m : Int) < 1 by omega), if_true]
    exact Ev.now _
  · obtain ⟨v, ⟨a0, a1, _⟩, h2⟩ := pick_ev hb (show p ≤ 1000000000 by omega) 9
    have a1 := a1 (by omega)
    obtain ⟨d, rfl⟩ : ∃ d : Nat, v = (d : Int) := ⟨v.toNat, by omega⟩
    have e : (49 : Int) + (d : Int) = 48 + ((d + 1 : Nat) : Int) := by omega
    obtain ⟨t, q, hq, ht, ht64, _, _, hE⟩ := figsI hb (n := m) (by omega) (m - 1) (p + 1) ⟨[UInt8.ofNat (48 + (d + 1))].toArray⟩ (by show 1 + (m - 1) = max m 1; omega) (by omega) (fig1 (by omega)) (by show 1 ≤ 64; omega)
    refine ⟨t, q, by omega, ht, ht64, Ev.step 2 (fun k => F79_eq k _ _ _) ?_⟩
    simp only [decide_eq_false (show ¬ (m : Int) < 1 by omega), Bool.false_eq_true, if_false]
    refine Ev.bind h2 ?_
    simp only [e, bytesOf_digit (show d + 1 < 10 by omega)]
    exact hE
end
theorem many_ev {a : ByteArray} (ha : Fig a) (h1 : a.size = 1) : ∀ (m : Nat) (s : ByteArray), Fig s → s.size + m ≤ 64 → ∃ t : ByteArray, Fig t ∧ t.size = s.size + m ∧ Ev (fun k => F80c2 k a (m : Int) s) ((t, ()), ((), (), ())) := by
  intro m
  induction m with
  | zero =>
    intro s hs hm
    refine ⟨s, hs, rfl, Ev.step 1 (fun k => F80c2_eq k _ _ _) ?_⟩
    simp only [show decide (((0 : Nat) : Int) > 0) = false from by decide, Bool.false_eq_true, if_false]
    exact Ev.now _
  | succ m ih =>
    intro s hs hm
    have hsz : (s ++ a).size = s.size + 1 := by rw [size_app, h1]
    obtain ⟨t, ht, ht2, hE⟩ := ih (s ++ a) (hs.app ha) (by omega)
    have e : IntKind.i64.wrap (((m + 1 : Nat) : Int) - 1) = (m : Int) := by rw [wrap64 (by omega) (by omega)]; omega
    have hble : Nat.ble (s.size + a.size) 9223372036854775807 = true := Nat.ble_eq_true_of_le (by omega)
    refine ⟨t, ht, by omega, Ev.step 1 (fun k => F80c2_eq k _ _ _) ?_⟩
    simp only [decide_eq_true (show ((m + 1 : Nat) : Int) > 0 by omega), if_true, hble, e]
    exact hE
theorem l1Many_ev {a : ByteArray} (ha : Fig a) (h1 : a.size = 1) {n : Int} (hn : n ≤ 64) (h0 : -10 ≤ n) : ∃ t : ByteArray, Fig t ∧ t.size = n.toNat ∧ Ev (fun k => F80 k a n) ((t, ()), ((), (), ())) := by
  by_cases h : 0 ≤ n
  · obtain ⟨m, rfl⟩ : ∃ m : Nat, n = (m : Int) := ⟨n.toNat, by omega⟩
    obtain ⟨t, h2, h3, h4⟩ := many_ev ha h1 m ⟨#[]⟩ (fun b hb => by simp at hb) (by show 0 + m ≤ 64; omega)
    exact ⟨t, h2, by rw [h3]; show 0 + m = _; omega, Ev.step 2 (fun k => F80_eq k _ _) h4⟩
  · refine ⟨⟨#[]⟩, fun b hb => by simp at hb, by show 0 = _; omega, Ev.step 2 (fun k => F80_eq k _ _) (Ev.step 1 (fun k => F80c2_eq k _ _ _) ?_)⟩
    simp only [decide_eq_false (show ¬ n > 0 by omega), Bool.false_eq_true, if_false]
    exact Ev.now _
end Go.Proofs.YtennmjbdmglebaaGreatDoor.R
end

section
/-! Rf: what the laws draw: big integers. -/
set_option autoImplicit false
set_option linter.unusedSimpArgs false
set_option linter.unusedVariables false
namespace Go.Proofs.YtennmjbdmglebaaGreatDoor.R
open Go.Rf
theorem trimD {l : List Int} (hr : InR l) (hl : l.length ≤ 1000000) : ∃ N : Nat, (digs N).length ≤ l.length ∧ Ev (fun k => F98 k l) ((digs N, ()), ((), ())) := by
  refine ⟨(VI l).toNat, digs_len_le ?_, l1Trim_ev hr hl⟩
  have h1 := VI_lt hr
  have h2 := VI_nonneg hr
  have h3 : ((10000 ^ l.length : Nat) : Int) = 10000 ^ l.length := Int.natCast_pow ..
  omega
theorem byte_at {s : ByteArray} {i : Nat} (h : i < s.size) : s[i]? = some s[i] := by
  exact getElem?_pos s i h
theorem fig_at {s : ByteArray} (hs : Fig s) {i : Nat} (h : i < s.size) : 48 ≤ s[i].toNat ∧ s[i].toNat ≤ 57 := by
  refine hs _ ?_
  show s.data[i] ∈ s.data.toList
  rw [← Array.getElem_toList]
  exact List.getElem_mem _
theorem fig_extract {s : ByteArray} (hs : Fig s) (n : Nat) : Fig (s.extract 0 n) := by
  intro b hb
  rw [ByteArray.data_extract, Array.toList_extract] at hb
  exact hs b (List.mem_of_mem_drop (List.mem_of_mem_take hb))
theorem figVal {u : UInt8} (h : 48 ≤ u.toNat ∧ u.toNat ≤ 57) : IntKind.i64.wrap (IntKind.u8.wrap ((u.toNat : Int) - 48)) = ((u.toNat - 48 : Nat) : Int) := by
  rw [u8_small (by omega) (by omega), wrap64 (by omega) (by omega)]
  omega
theorem ffC : ∀ (m : Nat) (s : ByteArray) (x3 : List Int), s.size ≤ m → Fig s → InR x3 → x3.length + s.size ≤ 1000 → ∃ N : Nat, (digs N).length ≤ 1000 ∧ Ev (fun k => F82c2 k s x3) ((digs N, ()), ((), ())) := by
  intro m
  induction m using Nat.strongRecOn with
  | _ m ih =>
    intro s x3 hm hs hx hl
    by_cases h0 : s.size = 0
    · obtain ⟨N, hN1, h1⟩ := trimD hx (by omega)
      refine ⟨N, by omega, Ev.step 1 (fun k => F82c2_eq k _ _) ?_⟩
      simp only [h0, show decide (((0 : Nat) : Int) > 0) = false from by decide, Bool.false_eq_true, if_false]
      exact Ev.bind h1 (Ev.now _)
    · have hp : decide ((s.size : Int) > 0) = true := decide_eq_true (by omega)
      have key : ∀ f : Nat, f < s.size → s.size ≤ f + 4 → ∃ N : Nat, (digs N).length ≤ 1000 ∧ Ev (fun k => F82c6 k s x3 (f : Int)) ((digs N, ()), ((), ())) := by
        intro f hf hf4
        have hsz : (s.extract 0 f).size = f := by simp; omega
        have hN : ∀ d : Nat, d ≤ 9999 → ∃ N : Nat, (digs N).length ≤ 1000 ∧ Ev (fun k => F82c2 k (s.extract 0 f) (x3 ++ [(d : Int)])) ((digs N, ()), ((), ())) := fun d hd =>
          ih f (by omega) (s.extract 0 f) (x3 ++ [(d : Int)]) (by omega) (fig_extract hs f) (inrSnoc hx (by omega)) (by simp; omega)
        -- which limb it is
        have hd : ∃ d : Nat, d ≤ 9999 ∧ ∀ R, (Ev (fun k => if (decide (x3.length + [(d : Int)].length ≤ 17592186044416)) = true then if (decide (0 ≤ (f : Int)) && decide ((f : Int) ≤ (s.size : Int))) = true then F82c2 k (s.extract 0 ((f : Int)).toNat) (x3 ++ [(d : Int)]) else none else none) R) → Ev (fun k => F82c6 k s x3 (f : Int)) R := by
          have walk : ∀ (m i d : Nat), i + m = s.size → f ≤ i → d < 10 ^ (i - f) → ∃ d' : Nat, d' ≤ 9999 ∧ ∀ R, (Ev (fun k => if (decide (x3.length + [(d' : Int)].length ≤ 17592186044416)) = true then if (decide (0 ≤ (f : Int)) && decide ((f : Int) ≤ (s.size : Int))) = true then F82c2 k (s.extract 0 ((f : Int)).toNat) (x3 ++ [(d' : Int)]) else none else none) R) → Ev (fun k => F82c8 k s x3 (f : Int) (d : Int) (i : Int)) R := by
            intro m
            induction m with
            | zero =>
              intro i d hi hfi hd
              have : 10 ^ (i - f) ≤ 10 ^ 4 := Nat.pow_le_pow_right (by omega) (by omega)
              refine ⟨d, by omega, fun R hR => Ev.step 1 (fun k => F82c8_eq k _ _ _ _ _) ?_⟩
              simp only [lt_false (show s.size ≤ i by omega), Bool.false_eq_true, if_false]
              exact hR
            | succ m ihm =>
              intro i d hi hfi hd
              have hlt : i < s.size := by omega
              have hfa := fig_at hs hlt
              have h4 : 10 ^ (i - f) ≤ 10 ^ 3 := Nat.pow_le_pow_right (by omega) (by omega)
              have e1 : IntKind.i64.wrap ((d : Int) * 10) = ((d * 10 : Nat) : Int) := by rw [wrap64 (by omega) (by omega)]; omega
              have e2 : IntKind.i64.wrap (((d * 10 : Nat) : Int) + ((s[i].toNat - 48 : Nat) : Int)) = ((d * 10 + (s[i].toNat - 48) : Nat) : Int) := by rw [wrap64 (by omega) (by omega)]; omega
              obtain ⟨d', h1, h2⟩ := ihm (i + 1) (d * 10 + (s[i].toNat - 48)) (by omega) (by omega) (by
                rw [show i + 1 - f = (i - f) + 1 by omega, Nat.pow_succ]
                omega)
              refine ⟨d', h1, fun R hR => Ev.step 1 (fun k => F82c8_eq k _ _ _ _ _) ?_⟩
              simp only [lt_true hlt, ge0, if_true, Int.toNat_natCast, byte_at hlt, Option.bind_some, figVal hfa, e1, e2, wrap_succ (show i < 9223372036854775807 by omega)]
              exact h2 R hR
          obtain ⟨d, h1, h2⟩ := walk (s.size - f) f 0 (by omega) (Nat.le_refl _) (by rw [Nat.sub_self]; decide)
          exact ⟨d, h1, fun R hR => Ev.step 1 (fun k => F82c6_eq k _ _ _) (h2 R hR)⟩
        obtain ⟨d, hd1, hd2⟩ := hd
        obtain ⟨N, hN1, hN⟩ := hN d hd1
        refine ⟨N, hN1, hd2 _ ?_⟩
        simp only [decide_eq_true (show x3.length + [(d : Int)].length ≤ 17592186044416 by simp; omega), if_true, ge0, le_true (Nat.le_of_lt hf), Bool.and_self, Int.toNat_natCast]
        exact hN
      have e4 : IntKind.i64.wrap ((s.size : Int) - 4) = (s.size : Int) - 4 := wrap64 (by omega) (by omega)
      by_cases h4 : s.size < 4
      · obtain ⟨N, hN1, hN⟩ := key 0 (by omega) (by omega)
        refine ⟨N, hN1, Ev.step 1 (fun k => F82c2_eq k _ _) ?_⟩
        simp only [hp, if_true, e4, decide_eq_true (show (s.size : Int) - 4 < 0 by omega)]
        exact hN
      · obtain ⟨N, hN1, hN⟩ := key (s.size - 4) (by omega) (by omega)
        refine ⟨N, hN1, Ev.step 1 (fun k => F82c2_eq k _ _) ?_⟩
        simp only [hp, if_true, e4, decide_eq_false (show ¬ (s.size : Int) - 4 < 0 by omega), Bool.false_eq_true, if_false]
        rw [show (s.size : Int) - 4 = ((s.size - 4 : Nat) : Int) by omega]
        exact hN
theorem ff_ev {s : ByteArray} (hs : Fig s) (hl : s.size ≤ 900) : ∃ N : Nat, (digs N).length ≤ 1000 ∧ Ev (fun k => F82 k s) ((digs N, ()), ((), ())) := by
  obtain ⟨N, h1, h⟩ := ffC s.size s [] (Nat.le_refl _) hs InR.nil (by simp; omega)
  exact ⟨N, h1, Ev.step 2 (fun k => F82_eq k _) h⟩
/-- a big integer in order, out of its number -/
theorem l1Big_any (neg : Bool) (N : Nat) (hl : (digs N).length ≤ 1000) : ∃ (z : Int) (ok : Bool), z.natAbs < 10000 ^ 16 ∧ Ev (fun k => F81 k neg (digs N)) (((decide (z < 0), digs z.natAbs, ()), ok, ()), ((), (), ())) := by
  have ht := l1Trim_ev (digs_InR N) (by omega)
  rw [VI_digs, Int.toNat_natCast] at ht
  by_cases h16 : (digs N).length > 16
  · refine ⟨0, false, by decide, Ev.step 2 (fun k => F81_eq k _ _) (Ev.bind ht ?_)⟩
    simp only [decide_eq_true (show ((digs N).length : Int) > 16 by omega), if_true]
    rw [show (0 : Int).natAbs = 0 from rfl, digs_zero]
    exact Ev.now _
  · have hN : N < 10000 ^ 16 := by
      have h1 := VI_lt (digs_InR N)
      rw [VI_digs] at h1
      have h2 : N < 10000 ^ (digs N).length := by
        have : ((N : Nat) : Int) < ((10000 ^ (digs N).length : Nat) : Int) := by rw [Int.natCast_pow]; exact h1
        omega
      have h3 : 10000 ^ (digs N).length ≤ 10000 ^ 16 := Nat.pow_le_pow_right (by omega) (by omega)
      omega
    refine ⟨sg neg N, true, by rw [sg_abs]; exact hN, Ev.step 2 (fun k => F81_eq k _ _) (Ev.bind ht ?_)⟩
    rw [sg_abs]
    simp only [decide_eq_false (show ¬ ((digs N).length : Int) > 16 by omega), Bool.false_eq_true, if_false, len_gt]
    cases neg with
    | true =>
      have e : decide (sg true N < 0) = decide (N ≠ 0) := by
        unfold sg
        simp only [if_true]
        congr 1
        exact propext ⟨fun h => by omega, fun h => by omega⟩
      simp only [if_true, e]
      exact Ev.now _
    | false =>
      have e : decide (sg false N < 0) = false := by unfold sg; simp
      simp only [Bool.false_eq_true, if_false, e]
      exact Ev.now _
/-! ### the reference's number of a whole number -/
theorem tmod_abs (x : Int) : (x.tmod 10000 < 0 → 0 - x.tmod 10000 = ((x.natAbs % 10000 : Nat) : Int)) ∧ (¬ x.tmod 10000 < 0 → x.tmod 10000 = ((x.natAbs % 10000 : Nat) : Int)) ∧ (x.tdiv 10000).natAbs = x.natAbs / 10000 ∧ -10000 < x.tmod 10000 ∧ x.tmod 10000 < 10000 := by
  rcases Int.natAbs_eq x with h | h
  · have h1 : x.tmod 10000 = ((x.natAbs % 10000 : Nat) : Int) := by
      rw [Int.tmod_eq_emod_of_nonneg (by omega)]; omega
    have h2 : x.tdiv 10000 = ((x.natAbs / 10000 : Nat) : Int) := by
      rw [Int.tdiv_eq_ediv_of_nonneg (by omega)]; omega
    rw [h1, h2]
    omega
  · have h1 : x.tmod 10000 = -((x.natAbs % 10000 : Nat) : Int) := by
      conv => lhs; rw [h]
      rw [Int.neg_tmod, Int.tmod_eq_emod_of_nonneg (by omega)]; omega
    have h2 : x.tdiv 10000 = -((x.natAbs / 10000 : Nat) : Int) := by
      conv => lhs; rw [h]
      rw [Int.neg_tdiv, Int.tdiv_eq_ediv_of_nonneg (by omega)]; omega
    rw [h1, h2]
    omega
theorem bofC {n : Int} {b : Bool} {l : List Int} : ∀ (m : Nat) (x3 : List Int) (x4 : Int), x4.natAbs ≤ m → m < 10000 ^ 4 → x3.length + (digs x4.natAbs).length ≤ 1000 →
    Ev (fun k => F55c3 k n b l x3 x4) (((decide (n < 0), x3 ++ digs x4.natAbs, ()), ()), ((), ())) := by
  intro m
  induction m using Nat.strongRecOn with
  | _ m ih =>
    intro x3 x4 hm hm2 hl
    have h44 : (10000 : Nat) ^ 4 = 10000000000000000 := by decide
    by_cases h0 : x4 = 0
    · subst h0
      refine Ev.step 1 (fun k => F55c3_eq k _ _ _ _ _) ?_
      simp only [bne_self_eq_false, Bool.false_eq_true, if_false]
      rw [show (0 : Int).natAbs = 0 from rfl, digs_zero, List.append_nil]
      exact Ev.now _
    · have hn : x4.natAbs ≠ 0 := by omega
      obtain ⟨t1, t2, t3, t4, t5⟩ := tmod_abs x4
      have e : digs x4.natAbs = ((x4.natAbs % 10000 : Nat) : Int) :: digs (x4.tdiv 10000).natAbs := by rw [digs_pos hn, t3]
      rw [e, List.length_cons] at hl
      have hw : IntKind.i64.wrap (x4.tdiv 10000) = x4.tdiv 10000 := wrap64 (by omega) (by omega)
      have next : Ev (fun k => F55c7 k n b l x3 x4 ((x4.natAbs % 10000 : Nat) : Int)) (((decide (n < 0), x3 ++ digs x4.natAbs, ()), ()), ((), ())) := by
        have h1 := ih (x4.tdiv 10000).natAbs (by omega) (x3 ++ [((x4.natAbs % 10000 : Nat) : Int)]) (x4.tdiv 10000) (Nat.le_refl _) (by omega) (by rw [List.length_append, List.length_singleton]; omega)
        rw [List.append_assoc, List.singleton_append, ← e] at h1
        refine Ev.step 1 (fun k => F55c7_eq k _ _ _ _ _ _) ?_
        simp only [decide_eq_true (show x3.length + [((x4.natAbs % 10000 : Nat) : Int)].length ≤ 17592186044416 by simp; omega), if_true, hw]
        exact h1
      refine Ev.step 1 (fun k => F55c3_eq k _ _ _ _ _) ?_
      simp only [show (x4 != 0) = true from by simpa using h0, if_true]
      by_cases hneg : x4.tmod 10000 < 0
      · have hw2 : IntKind.i64.wrap (0 - x4.tmod 10000) = ((x4.natAbs % 10000 : Nat) : Int) := by
          rw [wrap64 (by omega) (by omega)]
          exact t1 hneg
        simp only [decide_eq_true hneg, if_true, hw2]
        exact next
      · simp only [decide_eq_false hneg, Bool.false_eq_true, if_false]
        rw [t2 hneg]
        exact next
theorem BigOf_sp {n : Int} (h : n.natAbs < 10000 ^ 4) : Ev (fun k => F55 k n) (((decide (n < 0), digs n.natAbs, ()), ()), ((), ())) := by
  have := bofC (n := n) (b := false) (l := []) n.natAbs [] n (Nat.le_refl _) h (by have := digs_len_le h; simp; omega)
  rw [List.nil_append] at this
  exact Ev.step 2 (fun k => F55_eq k _) this
/-! ### drawn -/
section
variable {bs : List Int} (hb : Rd bs)
include hb
theorem bigC9 {p : Nat} (hp : p + 10 ≤ 1000000) {b : Bool} {l : List Int} {s : ByteArray} (hs : Fig s) (h64 : s.size ≤ 64) : ∃ (z : Int) (q : Nat), z.natAbs < 10000 ^ 16 ∧ q ≤ p + 10 ∧ Ev (fun k => F51c9 k bs (p : Int) b l s) (((decide (z < 0), digs z.natAbs, ()), ()), ((bs, (q : Int), ()), (), ())) := by
  obtain ⟨v, _, h1⟩ := pick_ev hb (show p ≤ 1000000000 by omega) 3
  obtain ⟨N, hN, h2⟩ := ff_ev hs (by omega)
  obtain ⟨z, ok, hz, h3⟩ := l1Big_any (v == 0) N hN
  refine ⟨z, p + 1, hz, by omega, Ev.step 1 (fun k => F51c9_eq k _ _ _ _ _) (Ev.bind h1 (Ev.bind h2 (Ev.bind h3 (Ev.now _))))⟩
theorem bigC7 {p : Nat} (hp : p + 20 ≤ 1000000) {b : Bool} {l : List Int} {n : Int} (h0 : 0 ≤ n) (hn : n ≤ 64) {s : ByteArray} (hs : Fig s) (h64 : s.size ≤ 64) : ∃ (z : Int) (q : Nat), z.natAbs < 10000 ^ 16 ∧ q ≤ p + 20 ∧ Ev (fun k => F51c7 k bs (p : Int) b l n s) (((decide (z < 0), digs z.natAbs, ()), ()), ((bs, (q : Int), ()), (), ())) := by
  obtain ⟨v, _, h1⟩ := pick_ev hb (show p ≤ 1000000000 by omega) 6
  cases hv : (v == (0 : Int)) with
  | true =>
    obtain ⟨t, ht, ht2, h2⟩ := l1Many_ev (a := ⟨#[57]⟩) (fig1 (d := 9) (by omega)) rfl (n := n) (by omega) (by omega)
    obtain ⟨z, q, hz, hq, h3⟩ := bigC9 (p := p + 1) hb (by omega) (b := b) (l := l) ht (by omega)
    refine ⟨z, q, hz, by omega, Ev.step 1 (fun k => F51c7_eq k _ _ _ _ _ _) (Ev.bind h1 ?_)⟩
    simp only [hv, if_true]
    exact Ev.bind h2 h3
  | false =>
    obtain ⟨z, q, hz, hq, h3⟩ := bigC9 (p := p + 1) hb (by omega) (b := b) (l := l) hs h64
    refine ⟨z, q, hz, by omega, Ev.step 1 (fun k => F51c7_eq k _ _ _ _ _ _) (Ev.bind h1 ?_)⟩
    simp only [hv, Bool.false_eq_true, if_false]
    exact h3
theorem bigC4 {p : Nat} (hp : p + 300 ≤ 1000000) {b : Bool} {l : List Int} {n : Int} (h0 : 0 ≤ n) (hn : n ≤ 64) : ∃ (z : Int) (q : Nat), z.natAbs < 10000 ^ 16 ∧ q ≤ p + 300 ∧ Ev (fun k => F51c4 k bs (p : Int) b l n) (((decide (z < 0), digs z.natAbs, ()), ()), ((bs, (q : Int), ()), (), ())) := by
  obtain ⟨t, q, hq, ht, ht64, h1⟩ := figs_ev hb h0 hn (p := p) (by omega)
  obtain ⟨v, _, h2⟩ := pick_ev hb (show q ≤ 1000000000 by omega) 6
  cases hv : (v == (0 : Int)) with
  | true =>
    have e : IntKind.i64.wrap (n - 1) = n - 1 := wrap64 (by omega) (by omega)
    obtain ⟨u, hu, hu2, h3⟩ := l1Many_ev (a := ⟨#[48]⟩) (fig1 (d := 0) (by omega)) rfl (n := n - 1) (by omega) (by omega)
    have hsz : ((⟨#[49]⟩ : ByteArray) ++ u).size = 1 + u.size := by rw [size_app]; rfl
    obtain ⟨z, q2, hz, hq2, h4⟩ := bigC7 (p := q + 1) hb (by omega) (b := b) (l := l) h0 hn (s := (⟨#[49]⟩ : ByteArray) ++ u) (Fig.app (fig1 (d := 1) (by omega)) hu) (by rw [hsz]; omega)
    refine ⟨z, q2, hz, by omega, Ev.step 1 (fun k => F51c4_eq k _ _ _ _ _) (Ev.bind h1 (Ev.bind h2 ?_))⟩
    have hble : Nat.ble ((⟨#[49]⟩ : ByteArray).size + u.size) 9223372036854775807 = true := Nat.ble_eq_true_of_le (by show 1 + u.size ≤ _; omega)
    simp only [hv, if_true, e]
    refine Ev.bind h3 ?_
    simp only [hble, if_true]
    exact h4
  | false =>
    obtain ⟨z, q2, hz, hq2, h4⟩ := bigC7 (p := q + 1) hb (by omega) (b := b) (l := l) h0 hn ht ht64
    refine ⟨z, q2, hz, by omega, Ev.step 1 (fun k => F51c4_eq k _ _ _ _ _) (Ev.bind h1 (Ev.bind h2 ?_))⟩
    simp only [hv, Bool.false_eq_true, if_false]
    exact h4
theorem l14Big_ev {p : Nat} (hp : p + 400 ≤ 1000000) {most : Int} (hm : 1 ≤ most) (hm2 : most ≤ 64) : ∃ (z : Int) (q : Nat), z.natAbs < 10000 ^ 16 ∧ q ≤ p + 400 ∧ Ev (fun k => F51 k bs (p : Int) most) (((decide (z < 0), digs z.natAbs, ()), ()), ((bs, (q : Int), ()), (), ())) := by
  obtain ⟨v, ⟨a0, a1, _⟩, h1⟩ := pick_ev hb (show p ≤ 1000000000 by omega) 64
  have a1 := a1 (by omega)
  have e1 : IntKind.i64.wrap (1 + v) = 1 + v := wrap64 (by omega) (by omega)
  obtain ⟨n, hn, h2⟩ := one_ev hb (show p + 1 ≤ 1000000000 by omega) [0, 1, 1, 2, 3, 4, 5, 8, 9, 12, 17, 29, 30, 31, 33, 63, 64, 1 + v] (by simp)
  have hn2 : 0 ≤ n ∧ n ≤ 64 := by
    simp only [List.mem_cons, List.not_mem_nil, or_false] at hn
    omega
  by_cases hg : n > most
  · obtain ⟨u, ⟨b0, b1, _⟩, h3⟩ := pick_ev hb (show p + 1 + 1 ≤ 1000000000 by omega) most
    have b1 := b1 hm
    have e2 : IntKind.i64.wrap (1 + u) = 1 + u := wrap64 (by omega) (by omega)
    obtain ⟨z, q, hz, hq, h4⟩ := bigC4 (p := p + 1 + 1 + 1) hb (by omega) (b := false) (l := []) (n := 1 + u) (by omega) (by omega)
    refine ⟨z, q, hz, by omega, Ev.step 2 (fun k => F51_eq k _ _ _) (Ev.bind h1 ?_)⟩
    simp only [e1]
    refine Ev.bind h2 ?_
    simp only [decide_eq_true hg, if_true]
    refine Ev.bind h3 ?_
    simp only [e2]
    exact h4
  · obtain ⟨z, q, hz, hq, h4⟩ := bigC4 (p := p + 1 + 1) hb (by omega) (b := false) (l := []) (n := n) (by omega) (by omega)
    refine ⟨z, q, hz, by omega, Ev.step 2 (fun k => F51_eq k _ _ _) (Ev.bind h1 ?_)⟩
    simp only [e1]
    refine Ev.bind h2 ?_
    simp only [decide_eq_false hg, Bool.false_eq_true, if_false]
    exact h4
end
end Go.Proofs.YtennmjbdmglebaaGreatDoor.R
end

section
/-! Rf: what the laws draw: decimals. -/
set_option autoImplicit false
set_option linter.unusedSimpArgs false
set_option linter.unusedVariables false
namespace Go.Proofs.YtennmjbdmglebaaGreatDoor.R
open Go.Rf
theorem Rd.of {code : List Int} (h : code.length ≤ 2000) (w : ∀ y ∈ code, 0 ≤ y ∧ y ≤ 255) : Rd code := ⟨h, w⟩
theorem open_ev (code : List Int) (w : ∀ y ∈ code, 0 ≤ y ∧ y ≤ 255) : ∃ bs, Rd bs ∧ Ev (fun k => F29 k code) (((bs, 0, ()), ()), ((), ())) := by
  by_cases h : code.length > 2000
  · refine ⟨code.take 2000, ⟨by simp; omega, fun y hy => w y (List.mem_of_mem_take hy)⟩, Ev.step 2 (fun k => F29_eq k _) ?_⟩
    simp only [decide_eq_true (show (code.length : Int) > 2000 by omega), if_true, show decide ((0 : Int) ≤ 2000) = true from rfl, decide_eq_true (show (2000 : Int) ≤ code.length by omega), Bool.and_self, slices0]
    exact Ev.step 1 (fun k => F29c3_eq k _) (Ev.now _)
  · refine ⟨code, ⟨by omega, w⟩, Ev.step 2 (fun k => F29_eq k _) ?_⟩
    simp only [decide_eq_false (show ¬ (code.length : Int) > 2000 by omega), Bool.false_eq_true, if_false]
    exact Ev.step 1 (fun k => F29c3_eq k _) (Ev.now _)
theorem z16 {z : Int} (h : z.natAbs < 10000 ^ 16) : (digs z.natAbs).length ≤ 16 := digs_len_le h
theorem anyC10 {bs : List Int} {p : Nat} {b1 b2 : Bool} {l1 : List Int} : ∀ (m : Nat) (l : List Int), l.length + m = max 17 l.length → l.length ≤ 17 → ∃ l' : List Int, l'.length ≤ 20 ∧ Ev (fun k => F62c10 k bs (p : Int) b1 l1 b2 l) (((b2, l', ()), ()), ((bs, (p : Int), ()), ())) := by
  intro m
  induction m with
  | zero =>
    intro l hm h17
    refine ⟨l, by omega, Ev.step 1 (fun k => F62c10_eq k _ _ _ _ _ _) ?_⟩
    simp only [decide_eq_false (show ¬ (l.length : Int) < 17 by omega), Bool.false_eq_true, if_false]
    exact Ev.step 1 (fun k => F62c12_eq k _ _ _ _ _ _) (Ev.now _)
  | succ m ih =>
    intro l hm h17
    have hl : (l ++ [(1 : Int)]).length = l.length + 1 := by simp
    obtain ⟨l', h1, h2⟩ := ih (l ++ [1]) (by omega) (by omega)
    refine ⟨l', h1, Ev.step 1 (fun k => F62c10_eq k _ _ _ _ _ _) ?_⟩
    simp only [decide_eq_true (show (l.length : Int) < 17 by omega), if_true, decide_eq_true (show l.length + [(1 : Int)].length ≤ 17592186044416 by simp; omega)]
    exact h2
section
variable {bs : List Int} (hb : Rd bs)
include hb
theorem anyBig_ev {p : Nat} (hp : p + 500 ≤ 1000000) : ∃ (n : Bool) (l : List Int) (q : Nat), l.length ≤ 100 ∧ q ≤ p + 500 ∧ Ev (fun k => F62 k bs (p : Int)) (((n, l, ()), ()), ((bs, (q : Int), ()), ())) := by
  obtain ⟨z, q, hz, hq, h1⟩ := l14Big_ev hb (p := p) (by omega) (most := 64) (by omega) (by omega)
  have hz := z16 hz
  obtain ⟨v, ⟨a0, a1, _⟩, h2⟩ := pick_ev hb (show q ≤ 1000000000 by omega) 30
  have st : ∀ {r}, Ev (fun k => if (v == (0 : Int)) = true then if (decide ((digs z.natAbs).length + [(0 : Int)].length ≤ 17592186044416)) = true then F62c12 k bs ((q + 1 : Nat) : Int) false ([] : List Int) (decide (z < 0)) (digs z.natAbs ++ [(0 : Int)]) else none else if (v == (1 : Int)) = true then (F31 k bs ((q + 1 : Nat) : Int) [(10000 : Int), (-1 : Int)]).bind fun r3 => if (decide ((digs z.natAbs).length + [r3.1.1].length ≤ 17592186044416)) = true then F62c12 k r3.2.1.1 r3.2.1.2.1 false ([] : List Int) (decide (z < 0)) (digs z.natAbs ++ [r3.1.1]) else none else if (v == (2 : Int)) = true then some (((true, ([] : List Int), ()), ()), ((bs, ((q + 1 : Nat) : Int), ()), ())) else if (v == (3 : Int)) = true then F62c10 k bs ((q + 1 : Nat) : Int) false ([] : List Int) (decide (z < 0)) (digs z.natAbs) else F62c12 k bs ((q + 1 : Nat) : Int) false ([] : List Int) (decide (z < 0)) (digs z.natAbs)) r → Ev (fun k => F62 k bs (p : Int)) r := fun h => Ev.step 2 (fun k => F62_eq k _ _) (Ev.bind h1 (Ev.bind h2 h))
  have c12 : ∀ {q' : Nat} {l : List Int}, Ev (fun k => F62c12 k bs (q' : Int) false ([] : List Int) (decide (z < 0)) l) (((decide (z < 0), l, ()), ()), ((bs, (q' : Int), ()), ())) := fun {q' l} => Ev.step 1 (fun k => F62c12_eq k _ _ _ _ _ _) (Ev.now _)
  cases c0 : (v == (0 : Int)) with
  | true =>
    refine ⟨decide (z < 0), digs z.natAbs ++ [0], q + 1, by simp; omega, by omega, st ?_⟩
    simp only [c0, if_true, decide_eq_true (show (digs z.natAbs).length + [(0 : Int)].length ≤ 17592186044416 by simp; omega)]
    exact c12
  | false =>
    cases c1 : (v == (1 : Int)) with
    | true =>
      obtain ⟨u, _, h3⟩ := one_ev hb (show q + 1 ≤ 1000000000 by omega) [10000, -1] (by simp)
      refine ⟨decide (z < 0), digs z.natAbs ++ [u], q + 1 + 1, by simp; omega, by omega, st ?_⟩
      simp only [c0, c1, Bool.false_eq_true, if_false, if_true]
      refine Ev.bind h3 ?_
      simp only [decide_eq_true (show (digs z.natAbs).length + [u].length ≤ 17592186044416 by simp; omega), if_true]
      exact c12
    | false =>
      cases c2 : (v == (2 : Int)) with
      | true =>
        refine ⟨true, [], q + 1, by simp, by omega, st ?_⟩
        simp only [c0, c1, c2, Bool.false_eq_true, if_false, if_true]
        exact Ev.now _
      | false =>
        cases c3 : (v == (3 : Int)) with
        | true =>
          obtain ⟨l', hl', h3⟩ := anyC10 (bs := bs) (p := q + 1) (b1 := false) (b2 := decide (z < 0)) (l1 := []) (17 - (digs z.natAbs).length) (digs z.natAbs) (by omega) (by omega)
          refine ⟨decide (z < 0), l', q + 1, by omega, by omega, st ?_⟩
          simp only [c0, c1, c2, c3, Bool.false_eq_true, if_false, if_true]
          exact h3
        | false =>
          refine ⟨decide (z < 0), digs z.natAbs, q + 1, by omega, by omega, st ?_⟩
          simp only [c0, c1, c2, c3, Bool.false_eq_true, if_false]
          exact c12
/-- a decimal in order, but for its figures -/
theorem l14Dec_ev {p : Nat} (hp : p + 600 ≤ 1000000) : ∃ (z : Int) (s q : Nat), z.natAbs < 10000 ^ 16 ∧ s ≤ 12 ∧ q ≤ p + 600 ∧ Ev (fun k => F61 k bs (p : Int)) (((decide (z < 0), digs z.natAbs, (s : Int), ()), ()), ((bs, (q : Int), ()), ())) := by
  obtain ⟨v, ⟨a0, a1, _⟩, h1⟩ := pick_ev hb (show p ≤ 1000000000 by omega) 13
  have a1 := a1 (by omega)
  obtain ⟨s, hs, h2⟩ := one_ev hb (show p + 1 ≤ 1000000000 by omega) [0, 0, 1, 2, 2, 3, 6, 12, v] (by simp)
  have hs2 : 0 ≤ s ∧ s ≤ 12 := by
    simp only [List.mem_cons, List.not_mem_nil, or_false] at hs
    omega
  obtain ⟨t, rfl⟩ : ∃ t : Nat, s = (t : Int) := ⟨s.toNat, by omega⟩
  obtain ⟨u, ⟨b0, b1, _⟩, h3⟩ := pick_ev hb (show p + 1 + 1 ≤ 1000000000 by omega) 5
  have h16 : (10000 : Nat) ^ 4 ≤ 10000 ^ 16 := Nat.pow_le_pow_right (by omega) (by omega)
  have h44 : (10000 : Nat) ^ 4 = 10000000000000000 := by decide
  cases c0 : (u == (0 : Int)) with
  | true =>
    obtain ⟨x, ⟨d0, d1, _⟩, h4⟩ := pick_ev hb (show p + 1 + 1 + 1 ≤ 1000000000 by omega) 200
    have d1 := d1 (by omega)
    have e : IntKind.i64.wrap (x - 100) = x - 100 := wrap64 (by omega) (by omega)
    have h5 := BigOf_sp (n := x - 100) (by omega)
    refine ⟨x - 100, t, p + 1 + 1 + 1 + 1, by omega, by omega, by omega, Ev.step 2 (fun k => F61_eq k _ _) (Ev.bind h1 (Ev.bind h2 (Ev.bind h3 ?_)))⟩
    simp only [c0, if_true]
    refine Ev.bind h4 ?_
    simp only [e]
    exact Ev.bind h5 (Ev.now _)
  | false =>
    cases c1 : (u == (1 : Int)) with
    | true =>
      obtain ⟨x, hx, h4⟩ := one_ev hb (show p + 1 + 1 + 1 ≤ 1000000000 by omega) [5, 15, 25, 35, 45, -5, -15, -25, 50, 150, 250, 499, 500, 501, -500, 1500, 2500, -2500, 1000, 20] (by simp)
      have hx2 : -2500 ≤ x ∧ x ≤ 2500 := by
        simp only [List.mem_cons, List.not_mem_nil, or_false] at hx
        omega
      have h5 := BigOf_sp (n := x) (by omega)
      refine ⟨x, t, p + 1 + 1 + 1 + 1, by omega, by omega, by omega, Ev.step 2 (fun k => F61_eq k _ _) (Ev.bind h1 (Ev.bind h2 (Ev.bind h3 ?_)))⟩
      simp only [c0, c1, Bool.false_eq_true, if_false, if_true]
      exact Ev.bind h4 (Ev.bind h5 (Ev.now _))
    | false =>
      cases c2 : (u == (2 : Int)) with
      | true =>
        obtain ⟨z, q, hz, hq, h4⟩ := l14Big_ev hb (p := p + 1 + 1 + 1) (by omega) (most := 8) (by omega) (by omega)
        refine ⟨z, t, q, hz, by omega, by omega, Ev.step 2 (fun k => F61_eq k _ _) (Ev.bind h1 (Ev.bind h2 (Ev.bind h3 ?_)))⟩
        simp only [c0, c1, c2, Bool.false_eq_true, if_false, if_true]
        exact Ev.bind h4 (Ev.now _)
      | false =>
        obtain ⟨z, q, hz, hq, h4⟩ := l14Big_ev hb (p := p + 1 + 1 + 1) (by omega) (most := 30) (by omega) (by omega)
        refine ⟨z, t, q, hz, by omega, by omega, Ev.step 2 (fun k => F61_eq k _ _) (Ev.bind h1 (Ev.bind h2 (Ev.bind h3 ?_)))⟩
        simp only [c0, c1, c2, Bool.false_eq_true, if_false]
        exact Ev.bind h4 (Ev.now _)
theorem anyDec_ev {p : Nat} (hp : p + 1300 ≤ 1000000) : ∃ (n : Bool) (l : List Int) (s : Int) (q : Nat), l.length ≤ 100 ∧ q ≤ p + 1300 ∧ Ev (fun k => F30 k bs (p : Int)) (((n, l, s, ()), ()), ((bs, (q : Int), ()), ())) := by
  obtain ⟨z, s, q, hz, hs, hq, h1⟩ := l14Dec_ev hb (p := p) (by omega)
  have hz16 := z16 hz
  obtain ⟨v, _, h2⟩ := pick_ev hb (show q ≤ 1000000000 by omega) 30
  have c9 : ∀ {q' : Nat} {n : Bool} {l : List Int} {s : Int}, Ev (fun k => F30c9 k bs (q' : Int) false ([] : List Int) (0 : Int) n l s) (((n, l, s, ()), ()), ((bs, (q' : Int), ()), ())) := fun {q' n l s} => Ev.step 1 (fun k => F30c9_eq k _ _ _ _ _ _ _ _) (Ev.now _)
  cases c0 : (v == (0 : Int)) with
  | true =>
    obtain ⟨u, _, h3⟩ := one_ev hb (show q + 1 ≤ 1000000000 by omega) [-1, 13, 4611686018427387904] (by simp)
    refine ⟨decide (z < 0), digs z.natAbs, u, q + 1 + 1, by omega, by omega, Ev.step 2 (fun k => F30_eq k _ _) (Ev.bind h1 (Ev.bind h2 ?_))⟩
    simp only [c0, if_true]
    exact Ev.bind h3 c9
  | false =>
    cases c1 : (v == (1 : Int)) with
    | true =>
      obtain ⟨y, q2, hy, hq2, h3⟩ := l14Big_ev hb (p := q + 1) (by omega) (most := 31) (by omega) (by omega)
      have hy := z16 hy
      refine ⟨decide (y < 0), digs y.natAbs, (s : Int), q2, by omega, by omega, Ev.step 2 (fun k => F30_eq k _ _) (Ev.bind h1 (Ev.bind h2 ?_))⟩
      simp only [c0, c1, Bool.false_eq_true, if_false, if_true]
      exact Ev.bind h3 c9
    | false =>
      cases c2 : (v == (2 : Int)) with
      | true =>
        obtain ⟨n, l, q2, hl, hq2, h3⟩ := anyBig_ev hb (p := q + 1) (by omega)
        refine ⟨n, l, (s : Int), q2, by omega, by omega, Ev.step 2 (fun k => F30_eq k _ _) (Ev.bind h1 (Ev.bind h2 ?_))⟩
        simp only [c0, c1, c2, Bool.false_eq_true, if_false, if_true]
        exact Ev.bind h3 c9
      | false =>
        refine ⟨decide (z < 0), digs z.natAbs, (s : Int), q + 1, by omega, by omega, Ev.step 2 (fun k => F30_eq k _ _) (Ev.bind h1 (Ev.bind h2 ?_))⟩
        simp only [c0, c1, c2, Bool.false_eq_true, if_false]
        exact c9
end
end Go.Proofs.YtennmjbdmglebaaGreatDoor.R
end

section
/-! Rf: decimals in order, as whole numbers with a scale: what the functions answer. -/
set_option autoImplicit false
set_option linter.unusedSimpArgs false
set_option linter.unusedVariables false
namespace Go.Proofs.YtennmjbdmglebaaGreatDoor.R
open Go.Rf
theorem jtIntsI {a b : List Int} (h : a.length = b.length) (hl : a.length ≤ 1000000) : ∀ (m i : Nat), i + m = a.length → (∀ j, j < i → a.getD j 0 = b.getD j 0) → Ev (fun k => F76c4 k a b (i : Int)) ((decide (a = b), ()), ((), (), ())) := by
  intro m
  induction m with
  | zero =>
    intro i hi hj
    have e : a = b := ext_getD h (fun j hjl => hj j (by omega))
    refine Ev.step 1 (fun k => F76c4_eq k _ _ _) ?_
    simp only [lt_false (show a.length ≤ i by omega), Bool.false_eq_true, if_false, decide_eq_true e]
    exact Ev.now _
  | succ m ih =>
    intro i hi hj
    have hlt : i < a.length := by omega
    refine Ev.step 1 (fun k => F76c4_eq k _ _ _) ?_
    simp only [lt_true hlt, ge0, if_true, Int.toNat_natCast, getI_of hlt, getI_of (show i < b.length by omega), Option.bind_some]
    by_cases e : a.getD i 0 = b.getD i 0
    · simp only [e, bne_self_eq_false, Bool.false_eq_true, if_false, wrap_succ (show i < 9223372036854775807 by omega)]
      refine ih (i + 1) (by omega) (fun j hj' => ?_)
      rcases Nat.lt_or_ge j i with h1 | h1
      · exact hj j h1
      · rw [show j = i by omega]; exact e
    · have hne : a ≠ b := fun h' => e (by rw [h'])
      simp only [bne_iff_ne.2 e, if_true]
      rw [decide_eq_false hne]
      exact Ev.now _
theorem jtInts_ev (a b : List Int) (hl : a.length ≤ 1000000) : Ev (fun k => F76 k a b) ((decide (a = b), ()), ((), (), ())) := by
  refine Ev.step 2 (fun k => F76_eq k _ _) ?_
  by_cases h : a.length = b.length
  · simp only [h, bne_self_eq_false, Bool.false_eq_true, if_false]
    exact jtIntsI h hl a.length 0 (by omega) (fun j hj => by omega)
  · have h2 : ((a.length : Int) != (b.length : Int)) = true := by rw [bne_iff_ne]; omega
    simp only [h2, if_true]
    rw [decide_eq_false (fun e => h (by rw [e]))]
    exact Ev.now _
/-- are two decimals written alike? -/
def alike (n1 : Bool) (l1 : List Int) (s1 : Int) (n2 : Bool) (l2 : List Int) (s2 : Int) : Bool := (s1 == s2) && ((n1 == n2) && decide (l1 = l2))
theorem jtDec_ev (n1 : Bool) (l1 : List Int) (s1 : Int) (n2 : Bool) (l2 : List Int) (s2 : Int) (hl : l1.length ≤ 1000000) : Ev (fun k => F13 k n1 l1 s1 n2 l2 s2) ((alike n1 l1 s1 n2 l2 s2, ()), (((), (), (), ()), ((), (), (), ()), ())) := by
  have hbig : Ev (fun k => F44 k n1 l1 n2 l2) (((n1 == n2) && decide (l1 = l2), ()), (((), (), ()), ((), (), ()), ())) := by
    refine Ev.step 2 (fun k => F44_eq k _ _ _ _) ?_
    cases h : (n1 == n2) with
    | true =>
      simp only [if_true, Bool.true_and]
      exact Ev.bind (jtInts_ev l1 l2 hl) (Ev.now _)
    | false =>
      simp only [Bool.false_eq_true, if_false, Bool.false_and]
      exact Ev.now _
  refine Ev.step 2 (fun k => F13_eq k _ _ _ _ _ _) ?_
  unfold alike
  cases h : (s1 == s2) with
  | true =>
    simp only [if_true, Bool.true_and]
    exact Ev.bind hbig (Ev.now _)
  | false =>
    simp only [Bool.false_eq_true, if_false, Bool.false_and]
    exact Ev.now _
theorem alike_self (n : Bool) (l : List Int) (s : Int) : alike n l s n l s = true := by simp [alike]
theorem jtDec_same (n : Bool) (l : List Int) (s : Int) (hl : l.length ≤ 1000000) : Ev (fun k => F13 k n l s n l s) ((true, ()), (((), (), (), ()), ((), (), (), ()), ())) := by
  have := jtDec_ev n l s n l s hl
  rwa [alike_self] at this
theorem digs_inj {a b : Nat} (h : digs a = digs b) : a = b := by
  have h1 := VI_digs a
  have h2 := VI_digs b
  rw [h] at h1
  omega
theorem alike_D {z1 z2 : Int} {s1 s2 : Nat} : alike (decide (z1 < 0)) (digs z1.natAbs) (s1 : Int) (decide (z2 < 0)) (digs z2.natAbs) (s2 : Int) = decide (z1 = z2 ∧ s1 = s2) := by
  unfold alike
  by_cases h : z1 = z2 ∧ s1 = s2
  · obtain ⟨rfl, rfl⟩ := h
    simp
  · rw [decide_eq_false h]
    by_cases hs : s1 = s2
    · have hz : z1 ≠ z2 := fun e => h ⟨e, hs⟩
      have : ¬ (decide (z1 < 0) = decide (z2 < 0) ∧ digs z1.natAbs = digs z2.natAbs) := by
        rintro ⟨h1, h2⟩
        have h3 := digs_inj h2
        have h4 : (z1 < 0) ↔ (z2 < 0) := by simpa using h1
        omega
      by_cases hd : decide (z1 < 0) = decide (z2 < 0)
      · simp only [hd, beq_self_eq_true, Bool.true_and, decide_eq_false (fun e => this ⟨hd, e⟩), Bool.and_false]
      · rw [beq_eq_false_iff_ne.2 hd, Bool.false_and, Bool.and_false]
    · have : ((s1 : Int) == (s2 : Int)) = false := by rw [beq_eq_false_iff_ne]; omega
      rw [this, Bool.false_and]
section
variable (n1 : Bool) (l1 : List Int) (s1 : Int) (n2 : Bool) (l2 : List Int) (s2 : Int)
end
theorem rounds_ev' (sc mode : Int) : Ev (fun k => F34 k sc mode) ((within sc 0 12 && within mode 1 7, ()), ((), (), ())) := by
  refine Ev.step 2 (fun k => F34_eq k _ _) (Ev.bind (in_ev sc 0 12) ?_)
  cases within sc 0 12 with
  | true => exact Ev.bind (in_ev mode 1 7) (Ev.now _)
  | false => exact Ev.now _
section
variable {z1 z2 : Int} {s1 s2 : Nat} (h1 : z1.natAbs < 10 ^ 30) (h2 : z2.natAbs < 10 ^ 30) (t1 : s1 ≤ 12) (t2 : s2 ≤ 12)
include h1 h2 t1 t2
end
theorem okD {z : Int} {s : Nat} (h : z.natAbs < 10 ^ 30) (t : s ≤ 12) : Ev (fun k => F33 k (decide (z < 0)) (digs z.natAbs) (s : Int)) ((true, ()), (((), (), (), ()), ())) := by
  have o1 : (digs z.natAbs).length ≤ 1048576 := by have := len16 h; omega
  have := DecOk_ev (decide (z < 0)) (digs z.natAbs) (s : Int) o1
  rwa [decOk_D h t] at this
theorem mk_fine {z : Int} {s : Nat} (h : z.natAbs < 10 ^ 30) : mk z s = (D z s, 0, ()) := if_pos h
theorem mk_over {z : Int} {s : Nat} (h : ¬ z.natAbs < 10 ^ 30) : mk z s = ((false, [], 0, ()), 3, ()) := if_neg h
theorem u8_of {y : Int} (h : wfT (.int .u8) y) : 0 ≤ y ∧ y ≤ 255 := by
  have h : (Lit.int .u8 y).wf = true := h
  simp [Lit.wf, IntKind.min, IntKind.max, IntKind.bits, IntKind.signed] at h
  omega
theorem cmpZ_eq (x : Int) : cmpZ x x = 0 := by unfold cmpZ; rw [if_neg (by omega), if_pos rfl]
theorem cmpZ_zero {x y : Int} : cmpZ x y = 0 ↔ x = y := by
  unfold cmpZ
  constructor
  · intro h
    split at h
    · omega
    · split at h
      · assumption
      · omega
  · rintro rfl
    rw [if_neg (by omega), if_pos rfl]
theorem cmpZ_swap (x y : Int) : cmpZ y x = -cmpZ x y := by
  unfold cmpZ
  (repeat' split) <;> omega
theorem cmpZ_range (x y : Int) : cmpZ x y = -1 ∨ cmpZ x y = 0 ∨ cmpZ x y = 1 := by
  unfold cmpZ
  (repeat' split) <;> simp
end Go.Proofs.YtennmjbdmglebaaGreatDoor.R
end

section
/-! Rf: the law FnDecDiv, with no machine in sight. -/
set_option autoImplicit false
set_option linter.unusedSimpArgs false
namespace Go.Proofs.YtennmjbdmglebaaGreatDoor.R
open Go.Rf
theorem drawDiv_ev (code : List Int) (w : ∀ y ∈ code, 0 ≤ y ∧ y ≤ 255) : ∃ (n1 : Bool) (l1 : List Int) (s1 : Int) (n2 : Bool) (l2 : List Int) (s2 sc mode : Int), l1.length ≤ 100 ∧ l2.length ≤ 100 ∧ Ev (fun k => F21 k code) (((n1, l1, s1, ()), (n2, l2, s2, ()), sc, mode, ()), ((), ())) := by
  obtain ⟨bs, hb, h1⟩ := open_ev code w
  obtain ⟨n1, l1, s1, q, hl1, hq, h2⟩ := anyDec_ev hb (p := 0) (by omega)
  obtain ⟨v, hv, h3⟩ := one_ev hb (show q ≤ 1000000000 by omega) [0, 1, 2, 3, 4, 7, 8, 9, 10, 100, -2, -3, -8, 1000000] (by simp)
  have hv4 : v.natAbs < 10000 ^ 4 := by
    have : (10000 : Nat) ^ 4 = 10000000000000000 := by decide
    simp only [List.mem_cons, List.not_mem_nil, or_false] at hv
    omega
  have h4 := BigOf_sp hv4
  have hl4 : (digs v.natAbs).length ≤ 4 := digs_len_le hv4
  obtain ⟨u, _, h5⟩ := pick_ev hb (show q + 1 ≤ 1000000000 by omega) 4
  obtain ⟨c, _, h6⟩ := pick_ev hb (show q + 1 + 1 ≤ 1000000000 by omega) 3
  have c6 : ∀ (p : Nat) (b1 : Bool) (x1 : List Int) (y1 : Int) (b2 : Bool) (x2 : List Int) (y2 : Int) (n2 : Bool) (l2 : List Int) (s2 : Int), p + 10 ≤ 1000000 → ∃ (sc mode : Int), Ev (fun k => F21c6 k b1 x1 y1 b2 x2 y2 bs (p : Int) n1 l1 s1 n2 l2 s2) (((n1, l1, s1, ()), (n2, l2, s2, ()), sc, mode, ()), ((), ())) := fun p b1 x1 y1 b2 x2 y2 n2 l2 s2 hp => by
    obtain ⟨a, ⟨a0, a1, _⟩, g1⟩ := pick_ev hb (show p ≤ 1000000000 by omega) 15
    have a1 := a1 (by omega)
    obtain ⟨sc, _, g2⟩ := one_ev hb (show p + 1 ≤ 1000000000 by omega) [0, 1, 2, 6, 12, IntKind.i64.wrap (a - 1)] (by simp)
    obtain ⟨mode, _, g3⟩ := pick_ev hb (show p + 1 + 1 ≤ 1000000000 by omega) 9
    exact ⟨sc, mode, Ev.step 1 (fun k => F21c6_eq k _ _ _ _ _ _ _ _ _ _ _ _ _ _) (Ev.bind g1 (Ev.bind g2 (Ev.bind g3 (Ev.now _))))⟩
  by_cases c0 : c = 0
  · obtain ⟨n2, l2, s2, q2, hl2, hq2, h7⟩ := anyDec_ev hb (p := q + 1 + 1 + 1) (by omega)
    obtain ⟨sc, mode, h8⟩ := c6 q2 false [] 0 false [] 0 n2 l2 s2 (by omega)
    refine ⟨n1, l1, s1, n2, l2, s2, sc, mode, hl1, hl2, Ev.step 2 (fun k => F21_eq k _) (Ev.bind h1 (Ev.bind h2 (Ev.bind h3 (Ev.bind h4 (Ev.bind h5 (Ev.bind h6 ?_))))))⟩
    simp only [c0, beq_self_eq_true, if_true]
    exact Ev.bind h7 h8
  · obtain ⟨sc, mode, h8⟩ := c6 (q + 1 + 1 + 1) false [] 0 false [] 0 (decide (v < 0)) (digs v.natAbs) u (by omega)
    refine ⟨n1, l1, s1, decide (v < 0), digs v.natAbs, u, sc, mode, hl1, by omega, Ev.step 2 (fun k => F21_eq k _) (Ev.bind h1 (Ev.bind h2 (Ev.bind h3 (Ev.bind h4 (Ev.bind h5 (Ev.bind h6 ?_))))))⟩
    simp only [beq_eq_false_iff_ne.2 c0, Bool.false_eq_true, if_false]
    exact h8
/-- a quotient that has come to something -/
theorem dDiv_fine {n1 : Bool} {l1 : List Int} {s1 : Int} {n2 : Bool} {l2 : List Int} {s2 sc mode : Int} (h : (dDiv n1 l1 s1 n2 l2 s2 sc mode).2.1 = 0) :
    ∃ (x : Int) (t1 : Nat) (y : Int) (t2 u : Nat), n1 = decide (x < 0) ∧ l1 = digs x.natAbs ∧ s1 = (t1 : Int) ∧ n2 = decide (y < 0) ∧ l2 = digs y.natAbs ∧ s2 = (t2 : Int) ∧ sc = (u : Int) ∧ x.natAbs < 10 ^ 30 ∧ y.natAbs < 10 ^ 30 ∧ t1 ≤ 12 ∧ t2 ≤ 12 ∧ u ≤ 12 ∧ 1 ≤ mode ∧ mode ≤ 7 ∧ y ≠ 0 ∧
      (sg (!(decide (x < 0) == decide (y < 0))) (rquo (!(decide (x < 0) == decide (y < 0))) (x.natAbs * 10 ^ (t2 + u)) (y.natAbs * 10 ^ t1) mode)).natAbs < 10 ^ 30 ∧
      dDiv n1 l1 s1 n2 l2 s2 sc mode = (D (sg (!(decide (x < 0) == decide (y < 0))) (rquo (!(decide (x < 0) == decide (y < 0))) (x.natAbs * 10 ^ (t2 + u)) (y.natAbs * 10 ^ t1) mode)) u, 0, ()) := by
  by_cases hok : decOk n1 l1 s1 = true ∧ decOk n2 l2 s2 = true ∧ within sc 0 12 = true ∧ within mode 1 7 = true
  · obtain ⟨x, t1, rfl, rfl, rfl, hx, ht1⟩ := decOk_ex hok.1
    obtain ⟨y, t2, rfl, rfl, rfl, hy, ht2⟩ := decOk_ex hok.2.1
    have w3 : 0 ≤ sc ∧ sc ≤ 12 := by simpa [within] using hok.2.2.1
    have w4 : 1 ≤ mode ∧ mode ≤ 7 := by simpa [within] using hok.2.2.2
    obtain ⟨u, rfl⟩ : ∃ u : Nat, sc = (u : Int) := ⟨sc.toNat, by omega⟩
    unfold dDiv at h ⊢
    rw [if_pos hok] at h ⊢
    by_cases h0 : num (digs y.natAbs) = 0
    · rw [if_pos h0] at h
      exact absurd h (by decide)
    · rw [if_neg h0, num_digs, num_digs, Int.toNat_natCast, Int.toNat_natCast, Int.toNat_natCast, made_mk] at h ⊢
      rw [num_digs] at h0
      unfold mk at h ⊢
      by_cases hf : (sg (!(decide (x < 0) == decide (y < 0))) (rquo (!(decide (x < 0) == decide (y < 0))) (x.natAbs * 10 ^ (t2 + u)) (y.natAbs * 10 ^ t1) mode)).natAbs < 10 ^ 30
      · exact ⟨x, t1, y, t2, u, rfl, rfl, rfl, rfl, rfl, rfl, rfl, hx, hy, ht1, ht2, by omega, w4.1, w4.2, by omega, hf, by rw [if_pos hf]⟩
      · rw [if_neg hf] at h
        exact absurd h (by decide)
  · unfold dDiv at h
    rw [if_neg hok] at h
    exact absurd h (by decide)
theorem pow_le {a b : Nat} (h : a ≤ b) : (10 : Nat) ^ a ≤ 10 ^ b := Nat.pow_le_pow_right (by omega) h
theorem cmpZ_lt {x y : Int} (h : x < y) : cmpZ x y = -1 := by unfold cmpZ; rw [if_pos h]
theorem cmpZ_le {x y : Int} (h : x ≤ y) : (cmpZ x y == 1) = false := by
  unfold cmpZ
  by_cases a : x < y
  · rw [if_pos a]; rfl
  · rw [if_neg a, if_pos (by omega)]; rfl
/-- what is left over, whatever the signs -/
theorem left_over (x y : Int) (Q p t : Nat) : (x * (p : Int) - sg (!(decide (x < 0) == decide (y < 0))) Q * y * (t : Int)).natAbs = (((x.natAbs * p : Nat) : Int) - (Q : Int) * ((y.natAbs * t : Nat) : Int)).natAbs := by
  have ex : x = x.natAbs ∨ x = -x.natAbs := by omega
  rw [Int.natCast_mul, Int.natCast_mul]
  obtain ⟨a, ha⟩ : ∃ a : Int, a = (x.natAbs : Int) := ⟨_, rfl⟩
  obtain ⟨b, hb⟩ : ∃ b : Int, b = (y.natAbs : Int) := ⟨_, rfl⟩
  rw [← ha, ← hb]
  unfold sg
  have swap : ∀ u v : Int, (-u - -v).natAbs = (u - v).natAbs := fun u v => by omega
  by_cases h1 : x < 0 <;> by_cases h2 : y < 0
  · have e1 : x = -a := by omega
    have e2 : y = -b := by omega
    rw [decide_eq_true h1, decide_eq_true h2]
    simp only [beq_self_eq_true, Bool.not_true, Bool.false_eq_true, if_false]
    rw [e1, e2, Int.neg_mul, Int.mul_neg, Int.neg_mul, swap, Int.mul_assoc]
  · have e1 : x = -a := by omega
    have e2 : y = b := by omega
    rw [decide_eq_true h1, decide_eq_false h2]
    simp only [show (true == false) = false from rfl, Bool.not_false, if_true]
    rw [e1, e2, Int.neg_mul, Int.neg_mul, Int.neg_mul, swap, Int.mul_assoc]
  · have e1 : x = a := by omega
    have e2 : y = -b := by omega
    rw [decide_eq_false h1, decide_eq_true h2]
    simp only [show (false == true) = false from rfl, Bool.not_false, if_true]
    rw [e1, e2, Int.neg_mul, Int.mul_neg, Int.neg_neg, Int.mul_assoc]
  · have e1 : x = a := by omega
    have e2 : y = b := by omega
    rw [decide_eq_false h1, decide_eq_false h2]
    simp only [beq_self_eq_true, Bool.not_true, Bool.false_eq_true, if_false]
    rw [e1, e2, Int.mul_assoc]
theorem FnDecDiv : PureFnDecDiv := by
  intro code w
  have w8 : ∀ y ∈ code, 0 ≤ y ∧ y ≤ 255 := fun y hy => u8_of (w.2 y hy)
  have fin : Ev (fun k => F8 k code) ((true, ()), ((), ())) := by
    refine Ev.step 2 (fun k => F8_eq k _) ?_
    by_cases hlen : code.length > 1048576
    · simp only [decide_eq_true (show (code.length : Int) > 1048576 by omega), if_true]
      exact Ev.now _
    simp only [decide_eq_false (show ¬ (code.length : Int) > 1048576 by omega), Bool.false_eq_true, if_false]
    obtain ⟨n1, l1, s1, n2, l2, s2, sc, mode, hl1, hl2, hd⟩ := drawDiv_ev code w8
    obtain ⟨m, em, hm, im, sp⟩ := DecDiv_both n1 l1 s1 n2 l2 s2 sc mode (by omega) (by omega)
    have hjt := jtDec_same m.1.1 m.1.2.1 m.1.2.2.1 (by omega)
    refine Ev.bind hd (Ev.bind im (Ev.bind sp ?_))
    simp only [bne_self_eq_false, Bool.false_eq_true, if_false]
    refine Ev.bind hjt ?_
    simp only [Bool.not_true, Bool.false_eq_true, if_false]
    by_cases hc : m.2.1 = 0
    · have hc' := hc
      rw [em] at hc'
      obtain ⟨x, t1, y, t2, u, rfl, rfl, rfl, rfl, rfl, rfl, rfl, hx, hy, ht1, ht2, hu, hm1, hm7, hy0, hf, e⟩ := dDiv_fine hc'
      rw [e] at em
      subst em
      obtain ⟨Q, hQ⟩ : ∃ Q, Q = rquo (!(decide (x < 0) == decide (y < 0))) (x.natAbs * 10 ^ (t2 + u)) (y.natAbs * 10 ^ t1) mode := ⟨_, rfl⟩
      have hd0 : 0 < y.natAbs * 10 ^ t1 := Nat.mul_pos (by omega) (Nat.pow_pos (by omega))
      have off := rquo_off (neg := !(decide (x < 0) == decide (y < 0))) (V := x.natAbs * 10 ^ (t2 + u)) (m := mode) hd0
      clear hjt hm im sp e hc'
      obtain ⟨q, hq⟩ : ∃ q, q = sg (!(decide (x < 0) == decide (y < 0))) Q := ⟨_, rfl⟩
      have lo := left_over x y Q (10 ^ (t2 + u)) (10 ^ t1)
      rw [← hq] at lo
      rw [← hQ] at off hf
      rw [← hq] at hf
      rw [← lo] at off
      rw [← hQ, ← hq]
      -- sizes
      have big : (10 : Nat) ^ 64 = 10000 ^ 16 := by decide
      have P1 : x.natAbs * 10 ^ (t2 + u) < 10 ^ 54 := Nat.lt_of_lt_of_le (Nat.mul_lt_mul_of_pos_right hx (Nat.pow_pos (by omega))) (by rw [← Nat.pow_add]; exact pow_le (by omega))
      have P2 : y.natAbs * 10 ^ t1 < 10 ^ 42 := Nat.lt_of_lt_of_le (Nat.mul_lt_mul_of_pos_right hy (Nat.pow_pos (by omega))) (by rw [← Nat.pow_add]; exact pow_le (by omega))
      have P3 : q.natAbs * y.natAbs < 10 ^ 60 := Nat.lt_of_le_of_lt (Nat.mul_le_mul_left _ (Nat.le_of_lt hy)) (by
        have := Nat.mul_lt_mul_of_pos_right hf (show 0 < 10 ^ 30 by decide)
        rwa [← Nat.pow_add] at this)
      have q42 : (10 : Nat) ^ 42 < 10 ^ 54 := by decide
      have q60 : (10 : Nat) ^ 60 < 10 ^ 64 := by decide
      have q54 : 4 * (10 : Nat) ^ 54 < 10 ^ 64 := by decide
      have p30 : (10 : Nat) ^ 30 < 10 ^ 64 := by decide
      have pp1 : (10 : Nat) ^ (t2 + u) ≤ 10 ^ 24 := pow_le (by omega)
      have pp2 : (10 : Nat) ^ t1 ≤ 10 ^ 24 := pow_le (by omega)
      have p24 : (10 : Nat) ^ 24 < 10 ^ 64 := by decide
      obtain ⟨A, hA⟩ : ∃ A, A = x * ((10 ^ (t2 + u) : Nat) : Int) := ⟨_, rfl⟩
      obtain ⟨B, hB⟩ : ∃ B, B = q * y * ((10 ^ t1 : Nat) : Int) := ⟨_, rfl⟩
      obtain ⟨C, hC⟩ : ∃ C, C = y * ((10 ^ t1 : Nat) : Int) := ⟨_, rfl⟩
      have aA : A.natAbs = x.natAbs * 10 ^ (t2 + u) := by rw [hA, Int.natAbs_mul, Int.natAbs_natCast]
      have aC : C.natAbs = y.natAbs * 10 ^ t1 := by rw [hC, Int.natAbs_mul, Int.natAbs_natCast]
      have aq : (q * y).natAbs = q.natAbs * y.natAbs := Int.natAbs_mul ..
      rw [← hA, ← hB, ← aC] at off
      obtain ⟨o1, o2⟩ := off
      have aB : B.natAbs < 2 * 10 ^ 54 := by omega
      have b8 := bigTenZ (n := t2 + u) (by omega)
      have b9 := bigTenZ (n := t1) (by omega)
      have b10 := bigMulZ (x := x) (y := ((10 ^ (t2 + u) : Nat) : Int)) (by omega) (by rw [Int.natAbs_natCast]; omega) (by rw [← hA]; omega)
      have b11 := bigMulZ (x := q) (y := y) (by omega) (by omega) (by omega)
      have b12 := bigMulZ (x := q * y) (y := ((10 ^ t1 : Nat) : Int)) (by omega) (by rw [Int.natAbs_natCast]; omega) (by rw [← hB]; omega)
      have b14 := bigMulZ (x := y) (y := ((10 ^ t1 : Nat) : Int)) (by omega) (by rw [Int.natAbs_natCast]; omega) (by rw [← hC]; omega)
      rw [← hA] at b10
      rw [← hB] at b12
      rw [← hC] at b14
      have b13 := bigSubZ (x := A) (y := B) (by omega) (by omega) (by omega)
      obtain ⟨R, hR⟩ : ∃ R, R = (A - B).natAbs := ⟨_, rfl⟩
      rw [← hR] at o1 o2
      have b15 := bigAddZ (x := (R : Int)) (y := (R : Int)) (by rw [Int.natAbs_natCast]; omega) (by rw [Int.natAbs_natCast]; omega) (by omega)
      have b16 := bigCmpZ (x := (R : Int) + (R : Int)) (y := ((C.natAbs : Nat) : Int)) (by omega) (by rw [Int.natAbs_natCast]; omega)
      have b17 := bigCmpZ (x := (R : Int)) (y := ((C.natAbs : Nat) : Int)) (by rw [Int.natAbs_natCast]; omega) (by rw [Int.natAbs_natCast]; omega)
      rw [natNeg, Int.natAbs_natCast] at b15 b17
      rw [natNeg, Int.natAbs_natCast] at b16 b17
      rw [cmpZ_lt (show (R : Int) < ((C.natAbs : Nat) : Int) by omega)] at b17
      have eu : IntKind.i64.wrap ((u : Int) + (t2 : Int)) = ((t2 + u : Nat) : Int) := by rw [addN (by omega), Nat.add_comm]
      simp only [D, bne_self_eq_false, Bool.false_eq_true, if_false, eu]
      refine Ev.bind b8 (Ev.bind b9 (Ev.bind b10 (Ev.bind b11 (Ev.bind b12 (Ev.bind b13 (Ev.bind b14 ?_))))))
      simp only [Bool.not_true, Bool.false_eq_true, if_false, ← hR]
      refine Ev.bind b15 ?_
      have tail : Ev (fun k => (F28 k false (digs R) false (digs C.natAbs)).bind fun r18 => if (r18.1.1 == (-1 : Int)) = true then some ((((u : Int) == (u : Int)), ()), ((), ())) else some ((false, ()), ((), ()))) ((true, ()), ((), ())) := by
        refine Ev.bind b17 ?_
        simp only [beq_self_eq_true, if_true]
        exact Ev.now _
      by_cases h5 : mode ≥ 5
      · have o3 := o2 h5 hm7
        simp only [decide_eq_true h5, if_true]
        refine Ev.bind b16 ?_
        rw [cmpZ_le (show (R : Int) + (R : Int) ≤ ((C.natAbs : Nat) : Int) by omega)]
        simp only [Bool.false_eq_true, if_false]
        exact tail
      · simp only [decide_eq_false h5, Bool.false_eq_true, if_false]
        exact tail
    · simp only [bne_iff_ne.2 hc, if_true, beq_self_eq_true]
      exact Ev.bind hjt (Ev.now _)
  obtain ⟨k, hk⟩ := Ev.get fin
  exact ⟨k, _, hk⟩
end Go.Proofs.YtennmjbdmglebaaGreatDoor.R
end

section
/-- The row, under a short name, for the claim. -/
theorem Go.Proofs.YtennmjbdmglebaaGreatDoor.fnDecDiv_holds : Go.Proofs.YtennmjbdmglebaaGreatDoor.Rows.FnDecDivCardSaid := Go.Proofs.YtennmjbdmglebaaGreatDoor.fnDecDiv.card Go.Proofs.YtennmjbdmglebaaGreatDoor.R.FnDecDiv
end
