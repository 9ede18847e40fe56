/- A part of the proof that the law FnDiskCrash answers true for every input: contracts of functions that it reaches, or its plain law. -/
import Derived.Test.YtldjfonpegffiaaCFnDiskCrashx0
import Derived.Test.YtldjfonpegffiaaCFnDiskCrashx2
import Derived.Test.YtldjfonpegffiaaCFnDiskCrashx3
section
/-! Rf: decimals as whole numbers with a scale. -/
set_option autoImplicit false
set_option linter.unusedSimpArgs false
set_option linter.unusedVariables false
namespace Go.Proofs.Ytldjfonpegffiaa.R
open Go.Rf
/-! ### figures -/
theorem decDigits_le : ∀ (k u : Nat), (Lib.decDigits u).length ≤ k + 1 → u < 10 ^ (k + 1)
  | 0, u, h => by
    by_cases hu : u < 10
    · simpa using hu
    · rw [Lib.decDigits, dif_neg hu, List.length_append] at h
      have : 0 < (Lib.decDigits (u / 10)).length := by
        rw [Lib.decDigits]; split <;> simp
      simp only [List.length_singleton] at h; omega
  | k + 1, u, h => by
    by_cases hu : u < 10
    · have : (1 : Nat) ≤ 10 ^ (k + 1) := Nat.pow_pos (by omega)
      rw [Nat.pow_succ]; omega
    · rw [Lib.decDigits, dif_neg hu, List.length_append] at h
      have := decDigits_le k (u / 10) (by simpa using h)
      rw [Nat.pow_succ]; omega
theorem dd1 {n : Nat} (h : n < 10) : Lib.decDigits n = [UInt8.ofNat (48 + n)] := by rw [Lib.decDigits, dif_pos h]
theorem ddS {n : Nat} (h : ¬ n < 10) : Lib.decDigits n = Lib.decDigits (n / 10) ++ [UInt8.ofNat (48 + n % 10)] := by rw [Lib.decDigits, dif_neg h]
theorem fig4_nat {n : Nat} (h : n < 10000) : fig4 (n : Int) = [UInt8.ofNat (48 + n / 1000), UInt8.ofNat (48 + n / 100 % 10), UInt8.ofNat (48 + n / 10 % 10), UInt8.ofNat (48 + n % 10)] := by
  rw [fig4, itoa_nat]
  by_cases h1 : n < 10
  · rw [dd1 h1, show n / 1000 = 0 by omega, show n / 100 = 0 by omega, show n / 10 = 0 by omega, show n % 10 = n by omega]
    rfl
  · by_cases h2 : n < 100
    · rw [ddS h1, dd1 (show n / 10 < 10 by omega), show n / 1000 = 0 by omega, show n / 100 = 0 by omega, show n / 10 % 10 = n / 10 by omega]
      rfl
    · by_cases h3 : n < 1000
      · rw [ddS h1, ddS (show ¬ n / 10 < 10 by omega), dd1 (show n / 10 / 10 < 10 by omega), show n / 1000 = 0 by omega, show n / 10 / 10 = n / 100 by omega, show n / 100 % 10 = n / 100 by omega]
        rfl
      · rw [ddS h1, ddS (show ¬ n / 10 < 10 by omega), ddS (show ¬ n / 10 / 10 < 10 by omega), dd1 (show n / 10 / 10 / 10 < 10 by omega), show n / 10 / 10 / 10 = n / 1000 by omega, show n / 10 / 10 = n / 100 by omega]
        rfl
theorem dd4 {n : Nat} (h : 10000 ≤ n) : Lib.decDigits n = Lib.decDigits (n / 10000) ++ fig4 ((n % 10000 : Nat) : Int) := by
  rw [fig4_nat (Nat.mod_lt _ (by omega)), ddS (show ¬ n < 10 by omega), ddS (show ¬ n / 10 < 10 by omega), ddS (show ¬ n / 10 / 10 < 10 by omega), ddS (show ¬ n / 10 / 10 / 10 < 10 by omega)]
  rw [show n / 10 / 10 / 10 / 10 = n / 10000 by omega, show n / 10 / 10 / 10 % 10 = n % 10000 / 1000 by omega, show n / 10 / 10 % 10 = n % 10000 / 100 % 10 by omega, show n / 10 % 10 = n % 10000 / 10 % 10 by omega, show n % 10 = n % 10000 % 10 by omega]
  simp only [List.append_assoc, List.singleton_append, List.cons_append, List.nil_append]
theorem figs_digs (n : Nat) (h : 0 < n) : figs (digs n) = Lib.decDigits n := by
  induction n using Nat.strongRecOn with
  | _ n ih =>
    rw [digs_pos (by omega)]
    by_cases h2 : n / 10000 = 0
    · rw [h2, digs_zero]
      show Lib.itoa _ = _
      rw [itoa_nat, show n % 10000 = n by omega]
    · have := ih (n / 10000) (by omega) (by omega)
      rw [dd4 (by omega), ← this]
      rw [digs_pos h2]
      rfl
theorem textL_digs (n : Nat) : textL (digs n) = ⟨(Lib.decDigits n).toArray⟩ := by
  by_cases h : n = 0
  · subst h
    rw [digs_zero, dd1 (by omega)]
    rfl
  · rw [textL_pos (by rw [digs_pos h]; simp), figs_digs n (by omega)]
theorem long_digs (n : Nat) : long (digs n) = if n = 0 then 0 else ((Lib.decDigits n).length : Int) := by
  unfold long
  by_cases h : n = 0
  · subst h; rw [digs_zero]; rfl
  · rw [if_neg h, if_neg (by rw [digs_pos h]; simp), textL_digs]
    rfl
theorem long30 (n : Nat) : long (digs n) > 30 ↔ ¬ n < 10 ^ 30 := by
  rw [long_digs]
  have h1 := decDigits_le 29 n
  have h2 := decDigits_len 29 n
  have h3 : (0 : Nat) < 10 ^ 30 := Nat.pow_pos (by omega)
  split
  · subst_vars
    constructor
    · intro h; omega
    · intro h; omega
  · constructor
    · intro h h'
      have := h2 h'
      omega
    · intro h
      have : ¬ (Lib.decDigits n).length ≤ 29 + 1 := fun h' => h (h1 h')
      omega
theorem lt30_16 {n : Nat} (h : n < 10 ^ 30) : n < 10000 ^ 16 := by
  have : (10 : Nat) ^ 30 < 10000 ^ 16 := by decide
  omega
theorem len16 {n : Nat} (h : n < 10 ^ 30) : (digs n).length ≤ 16 := digs_len_le (lt30_16 h)
theorem num_digs (n : Nat) : num (digs n) = n := by unfold num; rw [VI_digs]; rfl
/-! ### decimals -/
def sg (n : Bool) (A : Nat) : Int := if n = true then -(A : Int) else A
def D (z : Int) (s : Nat) : Bool × List Int × Int × Unit := (decide (z < 0), digs z.natAbs, (s : Int), ())
def mk (z : Int) (s : Nat) : (Bool × List Int × Int × Unit) × Int × Unit := if z.natAbs < 10 ^ 30 then (D z s, 0, ()) else ((false, [], 0, ()), 3, ())
theorem D_zero : D 0 0 = (false, [], 0, ()) := by
  unfold D
  rw [show (0 : Int).natAbs = 0 from rfl, digs_zero]
  rfl
theorem bOk_digs (z : Int) (h : z.natAbs < 10000 ^ 16) : bOk (decide (z < 0)) (digs z.natAbs) = true := by
  unfold bOk lastOk
  have h1 := digs_len_le h
  have h2 := digs_spec z.natAbs
  simp only [Bool.and_eq_true, decide_eq_true_eq]
  refine ⟨⟨h1, rangeOk_iff.2 h2.1⟩, ?_⟩
  by_cases h0 : z = 0
  · subst h0; rw [show (0 : Int).natAbs = 0 from rfl, digs_zero]; rfl
  · have hne : digs z.natAbs ≠ [] := fun e => h0 (by rw [digs_nil] at e; omega)
    rw [if_neg (fun e => hne (List.length_eq_zero_iff.1 e))]
    rcases h2.2.1 with h3 | h3
    · exact absurd h3 hne
    · exact bne_iff_ne.2 h3
theorem decOk_D {z : Int} {s : Nat} (h : z.natAbs < 10 ^ 30) (hs : s ≤ 12) : decOk (decide (z < 0)) (digs z.natAbs) (s : Int) = true := by
  unfold decOk
  rw [bOk_digs z (lt30_16 h), Bool.true_and, Bool.and_eq_true, decide_eq_true_eq]
  refine ⟨?_, ?_⟩
  · have h5 : ¬ long (digs z.natAbs) > 30 := fun h' => (long30 z.natAbs).1 h' h
    omega
  · unfold within
    simp; omega
theorem bOk_ex {n : Bool} {l : List Int} (h : bOk n l = true) : ∃ z : Int, n = decide (z < 0) ∧ l = digs z.natAbs ∧ z.natAbs < 10000 ^ 16 := by
  obtain ⟨h16, hr, ht, h0⟩ := bOk_of h
  refine ⟨sg n (num l), ?_, ?_, ?_⟩
  · unfold sg
    cases n with
    | false => simp
    | true =>
      have : l ≠ [] := fun e => by have := h0 e; cases this
      have := VI_pos hr ht this
      have h3 := num_spec hr
      simp; omega
  · have : (sg n (num l)).natAbs = num l := by unfold sg; split <;> omega
    rw [this, digs_num hr ht]
  · have : (sg n (num l)).natAbs = num l := by unfold sg; split <;> omega
    rw [this]
    have h1 := VI_lt hr
    rw [num_spec hr] at h1
    have h2 : num l < 10000 ^ l.length := by
      have : ((num l : Nat) : Int) < ((10000 ^ l.length : Nat) : Int) := by rw [Int.natCast_pow]; exact h1
      omega
    have h3 : 10000 ^ l.length ≤ 10000 ^ 16 := Nat.pow_le_pow_right (by omega) h16
    omega
theorem decOk_ex {n : Bool} {l : List Int} {s : Int} (h : decOk n l s = true) : ∃ (z : Int) (t : Nat), n = decide (z < 0) ∧ l = digs z.natAbs ∧ s = (t : Int) ∧ z.natAbs < 10 ^ 30 ∧ t ≤ 12 := by
  obtain ⟨h1, h2, t, h3, h4⟩ := decOk_of h
  obtain ⟨z, rfl, rfl, _⟩ := bOk_ex h1
  refine ⟨z, t, rfl, rfl, h3, ?_, h4⟩
  have h5 : ¬ ¬ z.natAbs < 10 ^ 30 := fun h' => by have := (long30 z.natAbs).2 h'; omega
  exact Decidable.not_not.1 h5
theorem sg_abs (n : Bool) (A : Nat) : (sg n A).natAbs = A := by unfold sg; split <;> omega
theorem made_mk (n : Bool) (A s : Nat) : made n A (s : Int) = mk (sg n A) s := by
  unfold made mk
  rw [sg_abs]
  have h := long30 A
  by_cases hA : A < 10 ^ 30
  · rw [if_neg (fun h' => h.1 h' hA), if_pos hA]
    unfold D
    rw [sg_abs, len_gt]
    have : (n && decide (A ≠ 0)) = decide (sg n A < 0) := by
      unfold sg
      cases n with
      | false => simp
      | true =>
        simp only [Bool.true_and, if_true]
        congr 1
        exact propext ⟨fun h => by omega, fun h => by omega⟩
    rw [this]
  · rw [if_pos (h.2 hA), if_neg hA]
theorem sg_sum (na : Bool) (A : Nat) (nb : Bool) (B : Nat) : sg (sSum na A nb B).1 (sSum na A nb B).2 = sg na A + sg nb B := by
  unfold sSum
  split
  · subst_vars
    unfold sg
    split <;> simp <;> omega
  · split
    · rename_i h1 h2
      unfold sg
      cases na <;> cases nb <;> simp_all <;> omega
    · rename_i h1 h2
      unfold sg
      cases na <;> cases nb <;> simp_all <;> omega
theorem sg_D (z : Int) : sg (decide (z < 0)) z.natAbs = z := by
  unfold sg
  by_cases h : z < 0
  · rw [if_pos (decide_eq_true h)]; omega
  · rw [if_neg (by simpa using h)]; omega
theorem sg_Dn (z : Int) : sg (!decide (z < 0)) z.natAbs = -z := by
  unfold sg
  by_cases h : z < 0
  · rw [decide_eq_true h]; simp; omega
  · rw [decide_eq_false h]; simp; omega
theorem sg_mul (n : Bool) (A k : Nat) : sg n (A * k) = sg n A * k := by
  unfold sg
  split
  · rw [Int.natCast_mul, Int.neg_mul]
  · rw [Int.natCast_mul]
theorem dSum_D {z1 z2 : Int} {s1 s2 : Nat} (h1 : z1.natAbs < 10 ^ 30) (h2 : z2.natAbs < 10 ^ 30) (t1 : s1 ≤ 12) (t2 : s2 ≤ 12) :
    dSum (decide (z1 < 0)) (digs z1.natAbs) (s1 : Int) (decide (z2 < 0)) (digs z2.natAbs) (s2 : Int) (decide (z2 < 0)) = mk (z1 * 10 ^ (max s1 s2 - s1) + z2 * 10 ^ (max s1 s2 - s2)) (max s1 s2) := by
  unfold dSum
  rw [if_pos ⟨decOk_D h1 t1, decOk_D h2 t2⟩, Int.toNat_natCast, Int.toNat_natCast, made_mk, sg_sum, sg_mul, sg_mul, num_digs, num_digs, sg_D, sg_D]
  simp only [Int.natCast_pow]
  rfl
theorem dSub_D {z1 z2 : Int} {s1 s2 : Nat} (h1 : z1.natAbs < 10 ^ 30) (h2 : z2.natAbs < 10 ^ 30) (t1 : s1 ≤ 12) (t2 : s2 ≤ 12) :
    dSum (decide (z1 < 0)) (digs z1.natAbs) (s1 : Int) (decide (z2 < 0)) (digs z2.natAbs) (s2 : Int) (!decide (z2 < 0)) = mk (z1 * 10 ^ (max s1 s2 - s1) - z2 * 10 ^ (max s1 s2 - s2)) (max s1 s2) := by
  unfold dSum
  rw [if_pos ⟨decOk_D h1 t1, decOk_D h2 t2⟩, Int.toNat_natCast, Int.toNat_natCast, made_mk, sg_sum, sg_mul, sg_mul, num_digs, num_digs, sg_D, sg_Dn]
  simp only [Int.natCast_pow, Int.neg_mul]
  rfl
def cmpZ (x y : Int) : Int := if x < y then -1 else if x = y then 0 else 1
theorem sCmp_sg {na nb : Bool} {A B : Nat} (ha : na = true → 0 < A) (hb : nb = true → 0 < B) : sCmp na A nb B = cmpZ (sg na A) (sg nb B) := by
  unfold sCmp cmpZ sg cmpI
  cases na <;> cases nb <;> simp at ha hb ⊢ <;> (repeat' split) <;> omega
theorem pow10_pos (k : Nat) : (0 : Int) < 10 ^ k := Int.pow_pos (by omega)
theorem dCmp_D {z1 z2 : Int} {s1 s2 : Nat} : dCmp (decide (z1 < 0)) (digs z1.natAbs) s1 (decide (z2 < 0)) (digs z2.natAbs) s2 = cmpZ (z1 * 10 ^ (max s1 s2 - s1)) (z2 * 10 ^ (max s1 s2 - s2)) := by
  unfold dCmp
  rw [num_digs, num_digs, sCmp_sg, sg_mul, sg_mul, sg_D, sg_D]
  · simp only [Int.natCast_pow]; rfl
  · intro h
    have : z1 < 0 := by simpa using h
    exact Nat.mul_pos (by omega) (Nat.pow_pos (by omega))
  · intro h
    have : z2 < 0 := by simpa using h
    exact Nat.mul_pos (by omega) (Nat.pow_pos (by omega))
/-- a quotient that is rounded, with sign -/
def rdiv (mode : Int) (z : Int) (d : Nat) : Int := sg (decide (z < 0)) (rquo (decide (z < 0)) z.natAbs d mode)
theorem dRound_D {z : Int} {s sc : Nat} {mode : Int} (h : z.natAbs < 10 ^ 30) (t : s ≤ 12) (hc : sc ≤ 12) (hm : 1 ≤ mode ∧ mode ≤ 7) :
    dRound (decide (z < 0)) (digs z.natAbs) (s : Int) (sc : Int) mode = if s ≤ sc then mk (z * 10 ^ (sc - s)) sc else mk (rdiv mode z (10 ^ (s - sc))) sc := by
  unfold dRound
  rw [if_pos ⟨decOk_D h t, by unfold within; simp; omega, by unfold within; simp; omega⟩, Int.toNat_natCast, Int.toNat_natCast]
  split
  · rw [made_mk, sg_mul, num_digs, sg_D]
    simp only [Int.natCast_pow]; rfl
  · rw [made_mk, num_digs]
    rfl
theorem sg_neg_zero (n : Bool) : sg n 0 = 0 := by unfold sg; split <;> rfl
theorem rquo_zero (n : Bool) (d : Nat) (mode : Int) : rquo n 0 d mode = 0 := by unfold rquo; simp
theorem neg_mul_lt {x y : Int} (hx : x < 0) (hy : 0 < y) : x * y < 0 := Int.mul_neg_of_neg_of_pos hx hy
/-- the sign of a product -/
theorem mul_neg (x y : Int) (h : x * y ≠ 0) : (!(decide (x < 0) == decide (y < 0))) = decide (x * y < 0) := by
  have hx : x ≠ 0 := fun e => h (by rw [e]; simp)
  have hy : y ≠ 0 := fun e => h (by rw [e]; simp)
  by_cases h1 : x < 0 <;> by_cases h2 : y < 0
  · have := Int.mul_pos_of_neg_of_neg h1 h2
    simp [h1, h2]; omega
  · have := Int.mul_neg_of_neg_of_pos h1 (show 0 < y by omega)
    simp [h1, h2]; omega
  · have := Int.mul_neg_of_pos_of_neg (show 0 < x by omega) h2
    simp [h1, h2]; omega
  · have := Int.mul_pos (show 0 < x by omega) (show 0 < y by omega)
    simp [h1, h2]; omega
theorem sg_prod (x y : Int) : sg (!(decide (x < 0) == decide (y < 0))) (x.natAbs * y.natAbs) = x * y := by
  rw [← Int.natAbs_mul]
  by_cases h : x * y = 0
  · rw [h]; exact sg_neg_zero _
  · rw [mul_neg x y h, sg_D]
theorem rdiv_prod (x y : Int) (d : Nat) (mode : Int) : sg (!(decide (x < 0) == decide (y < 0))) (rquo (!(decide (x < 0) == decide (y < 0))) (x.natAbs * y.natAbs) d mode) = rdiv mode (x * y) d := by
  rw [← Int.natAbs_mul]
  by_cases h : x * y = 0
  · rw [h]
    unfold rdiv
    rw [show (0 : Int).natAbs = 0 from rfl, rquo_zero, rquo_zero, sg_neg_zero, sg_neg_zero]
  · rw [mul_neg x y h]
    rfl
theorem dMul_D {z1 z2 : Int} {s1 s2 : Nat} (h1 : z1.natAbs < 10 ^ 30) (h2 : z2.natAbs < 10 ^ 30) (t1 : s1 ≤ 12) (t2 : s2 ≤ 12) :
    dMul (decide (z1 < 0)) (digs z1.natAbs) (s1 : Int) (decide (z2 < 0)) (digs z2.natAbs) (s2 : Int) = if s1 + s2 > 12 then mk (rdiv 7 (z1 * z2) (10 ^ (s1 + s2 - 12))) 12 else mk (z1 * z2) (s1 + s2) := by
  unfold dMul
  rw [if_pos ⟨decOk_D h1 t1, decOk_D h2 t2⟩, Int.toNat_natCast, Int.toNat_natCast, num_digs, num_digs]
  by_cases h : s1 + s2 > 12
  · rw [if_pos (by omega), if_pos h, show (12 : Int) = ((12 : Nat) : Int) from rfl, made_mk, rdiv_prod]
  · rw [if_neg (by omega), if_neg h, ← Int.natCast_add, made_mk, sg_prod]
theorem trimN_spec : ∀ (s V : Nat), (trimN V s).2 ≤ s ∧ (trimN V s).1 * 10 ^ (s - (trimN V s).2) = V ∧ ((trimN V s).2 = 0 ∨ (trimN V s).1 % 10 ≠ 0)
  | 0, V => by simp [trimN]
  | s + 1, V => by
    rw [trimN]
    split
    · obtain ⟨h1, h2, h3⟩ := trimN_spec s (V / 10)
      refine ⟨by omega, ?_, h3⟩
      rw [show s + 1 - (trimN (V / 10) s).2 = (s - (trimN (V / 10) s).2) + 1 by omega, Nat.pow_succ, ← Nat.mul_assoc, h2]
      omega
    · exact ⟨Nat.le_refl _, by simp, .inr (by assumption)⟩
theorem trimN_same {s V : Nat} (h : s = 0 ∨ V % 10 ≠ 0) : trimN V s = (V, s) := by
  cases s with
  | zero => rfl
  | succ s =>
    rw [trimN, if_neg (by omega)]
theorem dTrim_D {z : Int} {s : Nat} (h : z.natAbs < 10 ^ 30) (t : s ≤ 12) : ∃ (y : Int) (r : Nat), dTrim (decide (z < 0)) (digs z.natAbs) (s : Int) = D y r ∧ y.natAbs < 10 ^ 30 ∧ r ≤ s ∧ y * 10 ^ (s - r) = z ∧ (r = 0 ∨ y % 10 ≠ 0) := by
  obtain ⟨h1, h2, h3⟩ := trimN_spec s z.natAbs
  refine ⟨sg (decide (z < 0)) (trimN z.natAbs s).1, (trimN z.natAbs s).2, ?_, ?_, h1, ?_, ?_⟩
  · unfold dTrim
    rw [if_pos (decOk_D h t), Int.toNat_natCast, num_digs]
    unfold D
    rw [sg_abs]
    refine Prod.ext ?_ rfl
    show decide (z < 0) = decide (sg _ _ < 0)
    unfold sg
    by_cases hz : z < 0
    · have : (trimN z.natAbs s).1 ≠ 0 := fun e => by rw [e, Nat.zero_mul] at h2; omega
      simp [hz]; omega
    · simp [hz]
  · rw [sg_abs]
    have : (trimN z.natAbs s).1 ≤ z.natAbs := by
      conv => rhs; rw [← h2]
      exact Nat.le_mul_of_pos_right _ (Nat.pow_pos (by omega))
    omega
  · have : sg (decide (z < 0)) ((trimN z.natAbs s).1 * 10 ^ (s - (trimN z.natAbs s).2)) = z := by rw [h2, sg_D]
    rw [sg_mul, Int.natCast_pow] at this
    exact this
  · rcases h3 with h3 | h3
    · exact .inl h3
    · right
      unfold sg
      split <;> omega
theorem dTrim_same {z : Int} {s : Nat} (h : z.natAbs < 10 ^ 30) (t : s ≤ 12) (h3 : s = 0 ∨ z % 10 ≠ 0) : dTrim (decide (z < 0)) (digs z.natAbs) (s : Int) = D z s := by
  unfold dTrim
  rw [if_pos (decOk_D h t), Int.toNat_natCast, num_digs, trimN_same (by rcases h3 with h3 | h3; exact .inl h3; right; omega)]
  rfl
end Go.Proofs.Ytldjfonpegffiaa.R
end

section
/-! Rf: what the laws draw: numbers and decimals. -/
set_option autoImplicit false
set_option linter.unusedSimpArgs false
set_option linter.unusedVariables false
namespace Go.Proofs.Ytldjfonpegffiaa.R
open Go.Rf
/-- a reader's bytes -/
structure Rd (bs : List Int) : Prop where
  len : bs.length ≤ 2000
  b8 : ∀ y ∈ bs, 0 ≤ y ∧ y ≤ 255
theorem xor_small {a b : Int} (ha : 0 ≤ a) (ha2 : a < 4611686018427387904) (hb : 0 ≤ b) (hb2 : b < 4611686018427387904) : 0 ≤ IntKind.i64.wrap (((BitVec.ofInt IntKind.i64.bits a ^^^ BitVec.ofInt IntKind.i64.bits b).toNat : Nat) : Int) := by
  have e : IntKind.i64.bits = 64 := rfl
  have h1 : (BitVec.ofInt IntKind.i64.bits a).toNat < 2 ^ 62 := by
    rw [BitVec.toNat_ofInt, e]
    omega
  have h2 : (BitVec.ofInt IntKind.i64.bits b).toNat < 2 ^ 62 := by
    rw [BitVec.toNat_ofInt, e]
    omega
  have h3 : (BitVec.ofInt IntKind.i64.bits a ^^^ BitVec.ofInt IntKind.i64.bits b).toNat < 2 ^ 62 := by
    rw [BitVec.toNat_xor]
    exact Nat.xor_lt_two_pow h1 h2
  rw [wrap64 (by omega) (by omega)]
  omega
theorem tmod_range {x n : Int} (hx : 0 ≤ x) (hn : 1 ≤ n) : 0 ≤ x.tmod n ∧ x.tmod n < n := by
  rw [Int.tmod_eq_emod_of_nonneg hx]
  exact ⟨Int.emod_nonneg _ (by omega), Int.emod_lt_of_pos _ (by omega)⟩
theorem pick_ev {bs : List Int} (hb : Rd bs) {p : Nat} (hp : p ≤ 1000000000) (n : Int) : ∃ v : Int, (0 ≤ v ∧ (1 ≤ n → v < n) ∧ (n < 1 → v = 0)) ∧ Ev (fun k => F79 k bs (p : Int) n) ((v, ()), ((bs, ((p + 1 : Nat) : Int), ()), (), ())) := by
  have e1 : IntKind.i64.wrap ((p : Int) + 1) = ((p + 1 : Nat) : Int) := wrap_succ (by omega)
  have e2 : IntKind.i64.wrap (((p + 1 : Nat) : Int) - 1) = (p : Int) := by rw [wrap64 (by omega) (by omega)]; omega
  have st : ∀ {r}, Ev (fun _ => if (decide (n < (1 : Int))) = true then some (((0 : Int), ()), ((bs, ((p + 1 : Nat) : Int), ()), (), ())) else if ((bs.length : Int) == (0 : Int)) = true then some (((0 : Int), ()), ((bs, ((p + 1 : Nat) : Int), ()), (), ())) else if (decide ((p : Int) < (bs.length : Int))) = true then if (decide (0 ≤ (p : Int))) = true then (bs[((p : Int)).toNat]?).bind fun y1 => if (!(n == 0)) = true then some ((((IntKind.i64.wrap y1).tmod n), ()), ((bs, ((p + 1 : Nat) : Int), ()), (), ())) else none else none else if (!((bs.length : Int) == 0)) = true then if (decide (0 ≤ ((p : Int).tmod (bs.length : Int)))) = true then (bs[((p : Int).tmod (bs.length : Int)).toNat]?).bind fun y2 => if (!((bs.length : Int) == 0)) = true then if (decide (0 ≤ ((IntKind.i64.wrap ((IntKind.i64.wrap ((p : Int) * (7 : Int))) + (3 : Int))).tmod (bs.length : Int)))) = true then (bs[((IntKind.i64.wrap ((IntKind.i64.wrap ((p : Int) * (7 : Int))) + (3 : Int))).tmod (bs.length : Int)).toNat]?).bind fun y3 => if (!((bs.length : Int) == 0)) = true then if (!(n == 0)) = true then some ((((IntKind.i64.wrap (((BitVec.ofInt IntKind.i64.bits (IntKind.i64.wrap ((IntKind.i64.wrap ((IntKind.i64.wrap ((IntKind.i64.wrap ((IntKind.i64.wrap y2) * (131 : Int))) + (IntKind.i64.wrap ((IntKind.i64.wrap y3) * (1117 : Int))))) + (IntKind.i64.wrap ((p : Int) * (29 : Int))))) + (IntKind.i64.wrap ((IntKind.i64.wrap ((p : Int).tdiv (bs.length : Int))) * (53 : Int))))) ^^^ BitVec.ofInt IntKind.i64.bits (IntKind.i64.wrap ((IntKind.i64.wrap ((IntKind.i64.wrap ((IntKind.i64.wrap ((IntKind.i64.wrap ((IntKind.i64.wrap y2) * (131 : Int))) + (IntKind.i64.wrap ((IntKind.i64.wrap y3) * (1117 : Int))))) + (IntKind.i64.wrap ((p : Int) * (29 : Int))))) + (IntKind.i64.wrap ((IntKind.i64.wrap ((p : Int).tdiv (bs.length : Int))) * (53 : Int))))).tdiv (64 : Int)))).toNat : Int))).tmod n), ()), ((bs, ((p + 1 : Nat) : Int), ()), (), ())) else none else none else none else none else none else none) r → Ev (fun k => F79 k bs (p : Int) n) r := by
    intro r h
    refine Ev.step 2 (fun k => F79_eq k _ _ _) ?_
    simp only [e1, e2]
    exact h
  by_cases h1 : n < 1
  · refine ⟨0, ⟨Int.le_refl _, fun h => by omega, fun _ => rfl⟩, st ?_⟩
    simp only [decide_eq_true h1, if_true]
    exact Ev.now _
  · have hn : (!(n == 0)) = true := by simp; omega
    by_cases h2 : bs.length = 0
    · refine ⟨0, ⟨Int.le_refl _, fun h => by omega, fun _ => rfl⟩, st ?_⟩
      simp only [decide_eq_false h1, Bool.false_eq_true, if_false, h2, Int.ofNat_zero, beq_self_eq_true, if_true]
      exact Ev.now _
    · have hl0 : ((bs.length : Int) == 0) = false := by rw [beq_eq_false_iff_ne]; omega
      by_cases h3 : p < bs.length
      · obtain ⟨y, hy⟩ : ∃ y, bs[p]? = some y := ⟨_, List.getElem?_eq_getElem h3⟩
        have hy8 := hb.b8 y (List.mem_of_getElem? hy)
        have hr := tmod_range (n := n) hy8.1 (by omega)
        refine ⟨y.tmod n, ⟨hr.1, fun _ => hr.2, fun h => by omega⟩, st ?_⟩
        have ey : IntKind.i64.wrap y = y := wrap64 (by omega) (by omega)
        simp only [decide_eq_false h1, Bool.false_eq_true, if_false, hl0, lt_true h3, ge0, if_true, Int.toNat_natCast, hy, Option.bind_some, hn, ey]
        exact Ev.now _
      · have hpos : (0 : Int) < (bs.length : Int) := by omega
        have t1 := tmod_range (x := (p : Int)) (n := (bs.length : Int)) (by omega) (by omega)
        have w7 : IntKind.i64.wrap ((p : Int) * 7) = (p : Int) * 7 := wrap64 (by omega) (by omega)
        have w73 : IntKind.i64.wrap ((p : Int) * 7 + 3) = (p : Int) * 7 + 3 := wrap64 (by omega) (by omega)
        have t2 := tmod_range (x := (p : Int) * 7 + 3) (n := (bs.length : Int)) (by omega) (by omega)
        obtain ⟨y, hy⟩ : ∃ y, bs[((p : Int).tmod (bs.length : Int)).toNat]? = some y := ⟨_, List.getElem?_eq_getElem (by omega)⟩
        obtain ⟨z, hz⟩ : ∃ z, bs[((((p : Int) * 7 + 3)).tmod (bs.length : Int)).toNat]? = some z := ⟨_, List.getElem?_eq_getElem (by omega)⟩
        have hy8 := hb.b8 y (List.mem_of_getElem? hy)
        have hz8 := hb.b8 z (List.mem_of_getElem? hz)
        have ey : IntKind.i64.wrap y = y := wrap64 (by omega) (by omega)
        have ez : IntKind.i64.wrap z = z := wrap64 (by omega) (by omega)
        have d0 : 0 ≤ (p : Int).tdiv (bs.length : Int) ∧ (p : Int).tdiv (bs.length : Int) ≤ (p : Int) := by
          rw [Int.tdiv_eq_ediv_of_nonneg (by omega)]
          exact ⟨Int.ediv_nonneg (by omega) (by omega), Int.ediv_le_self _ (by omega)⟩
        obtain ⟨d, hd⟩ : ∃ d, d = (p : Int).tdiv (bs.length : Int) := ⟨_, rfl⟩
        rw [← hd] at d0
        have w1 : IntKind.i64.wrap (y * 131) = y * 131 := wrap64 (by omega) (by omega)
        have w2 : IntKind.i64.wrap (z * 1117) = z * 1117 := wrap64 (by omega) (by omega)
        have w3 : IntKind.i64.wrap (y * 131 + z * 1117) = y * 131 + z * 1117 := wrap64 (by omega) (by omega)
        have w4 : IntKind.i64.wrap ((p : Int) * 29) = (p : Int) * 29 := wrap64 (by omega) (by omega)
        have w5 : IntKind.i64.wrap (y * 131 + z * 1117 + (p : Int) * 29) = y * 131 + z * 1117 + (p : Int) * 29 := wrap64 (by omega) (by omega)
        have w6 : IntKind.i64.wrap d = d := wrap64 (by omega) (by omega)
        have w8 : IntKind.i64.wrap (d * 53) = d * 53 := wrap64 (by omega) (by omega)
        obtain ⟨X, hX⟩ : ∃ X, X = y * 131 + z * 1117 + (p : Int) * 29 + d * 53 := ⟨_, rfl⟩
        have hX0 : 0 ≤ X ∧ X ≤ 1000000000000 := by omega
        have w9 : IntKind.i64.wrap X = X := wrap64 (by omega) (by omega)
        have q0 : 0 ≤ X.tdiv 64 ∧ X.tdiv 64 ≤ X := by
          rw [Int.tdiv_eq_ediv_of_nonneg (by omega)]
          omega
        have w10 : IntKind.i64.wrap (X.tdiv 64) = X.tdiv 64 := wrap64 (by omega) (by omega)
        have hx := xor_small (a := X) (b := X.tdiv 64) (by omega) (by omega) (by omega) (by omega)
        have hr := tmod_range (n := n) hx (by omega)
        refine ⟨_, ⟨hr.1, fun _ => hr.2, fun h => by omega⟩, st ?_⟩
        simp only [decide_eq_false h1, Bool.false_eq_true, if_false, hl0, lt_false (show bs.length ≤ p by omega), Bool.not_false, if_true, decide_eq_true t1.1, hy, Option.bind_some, w7, w73, decide_eq_true t2.1, hz, hn, ey, ez, w1, w2, w3, w4, w5, ← hd, w6, w8, ← hX, w9, w10]
        exact Ev.now _
theorem one_ev {bs : List Int} (hb : Rd bs) {p : Nat} (hp : p ≤ 1000000000) (l : List Int) (hl : 0 < l.length) : ∃ v ∈ l, Ev (fun k => F77 k bs (p : Int) l) ((v, ()), ((bs, ((p + 1 : Nat) : Int), ()), (), ())) := by
  obtain ⟨v, ⟨h0, h1, _⟩, h2⟩ := pick_ev hb hp (l.length : Int)
  have h1 := h1 (by omega)
  obtain ⟨y, hy⟩ : ∃ y, l[v.toNat]? = some y := ⟨_, List.getElem?_eq_getElem (by omega)⟩
  refine ⟨y, List.mem_of_getElem? hy, Ev.step 2 (fun k => F77_eq k _ _ _) (Ev.bind h2 ?_)⟩
  simp only [decide_eq_true h0, decide_eq_true h1, Bool.and_self, if_true, hy, Option.bind_some]
  exact Ev.now _
/-! ### figures -/
def Fig (s : ByteArray) : Prop := ∀ b ∈ s.data.toList, 48 ≤ b.toNat ∧ b.toNat ≤ 57
theorem Fig.app {s t : ByteArray} (hs : Fig s) (ht : Fig t) : Fig (s ++ t) := by
  intro b hb
  rw [ByteArray.data_append, Array.toList_append, List.mem_append] at hb
  rcases hb with hb | hb
  · exact hs b hb
  · exact ht b hb
theorem fig1 {d : Nat} (h : d < 10) : Fig ⟨[UInt8.ofNat (48 + d)].toArray⟩ := by
  intro b hb
  have hb : b ∈ [UInt8.ofNat (48 + d)] := hb
  rw [List.mem_singleton.1 hb, UInt8.toNat_ofNat']
  omega
theorem size_app (s t : ByteArray) : (s ++ t).size = s.size + t.size := ByteArray.size_append ..
section
variable {bs : List Int} (hb : Rd bs)
include hb
end
theorem many_ev {a : ByteArray} (ha : Fig a) (h1 : a.size = 1) : ∀ (m : Nat) (s : ByteArray), Fig s → s.size + m ≤ 64 → ∃ t : ByteArray, Fig t ∧ t.size = s.size + m ∧ Ev (fun k => F109c2 k a (m : Int) s) ((t, ()), ((), (), ())) := by
  intro m
  induction m with
  | zero =>
    intro s hs hm
    refine ⟨s, hs, rfl, Ev.step 1 (fun k => F109c2_eq k _ _ _) ?_⟩
    simp only [show decide (((0 : Nat) : Int) > 0) = false from by decide, Bool.false_eq_true, if_false]
    exact Ev.now _
  | succ m ih =>
    intro s hs hm
    have hsz : (s ++ a).size = s.size + 1 := by rw [size_app, h1]
    obtain ⟨t, ht, ht2, hE⟩ := ih (s ++ a) (hs.app ha) (by omega)
    have e : IntKind.i64.wrap (((m + 1 : Nat) : Int) - 1) = (m : Int) := by rw [wrap64 (by omega) (by omega)]; omega
    have hble : Nat.ble (s.size + a.size) 9223372036854775807 = true := Nat.ble_eq_true_of_le (by omega)
    refine ⟨t, ht, by omega, Ev.step 1 (fun k => F109c2_eq k _ _ _) ?_⟩
    simp only [decide_eq_true (show ((m + 1 : Nat) : Int) > 0 by omega), if_true, hble, e]
    exact hE
theorem l1Many_ev {a : ByteArray} (ha : Fig a) (h1 : a.size = 1) {n : Int} (hn : n ≤ 64) (h0 : -10 ≤ n) : ∃ t : ByteArray, Fig t ∧ t.size = n.toNat ∧ Ev (fun k => F109 k a n) ((t, ()), ((), (), ())) := by
  by_cases h : 0 ≤ n
  · obtain ⟨m, rfl⟩ : ∃ m : Nat, n = (m : Int) := ⟨n.toNat, by omega⟩
    obtain ⟨t, h2, h3, h4⟩ := many_ev ha h1 m ⟨#[]⟩ (fun b hb => by simp at hb) (by show 0 + m ≤ 64; omega)
    exact ⟨t, h2, by rw [h3]; show 0 + m = _; omega, Ev.step 2 (fun k => F109_eq k _ _) h4⟩
  · refine ⟨⟨#[]⟩, fun b hb => by simp at hb, by show 0 = _; omega, Ev.step 2 (fun k => F109_eq k _ _) (Ev.step 1 (fun k => F109c2_eq k _ _ _) ?_)⟩
    simp only [decide_eq_false (show ¬ n > 0 by omega), Bool.false_eq_true, if_false]
    exact Ev.now _
end Go.Proofs.Ytldjfonpegffiaa.R
end

section
/-! Rf: what the laws draw: decimals. -/
set_option autoImplicit false
set_option linter.unusedSimpArgs false
set_option linter.unusedVariables false
namespace Go.Proofs.Ytldjfonpegffiaa.R
open Go.Rf
theorem Rd.of {code : List Int} (h : code.length ≤ 2000) (w : ∀ y ∈ code, 0 ≤ y ∧ y ≤ 255) : Rd code := ⟨h, w⟩
theorem open_ev (code : List Int) (w : ∀ y ∈ code, 0 ≤ y ∧ y ≤ 255) : ∃ bs, Rd bs ∧ Ev (fun k => F51 k code) (((bs, 0, ()), ()), ((), ())) := by
  by_cases h : code.length > 2000
  · refine ⟨code.take 2000, ⟨by simp; omega, fun y hy => w y (List.mem_of_mem_take hy)⟩, Ev.step 2 (fun k => F51_eq k _) ?_⟩
    simp only [decide_eq_true (show (code.length : Int) > 2000 by omega), if_true, show decide ((0 : Int) ≤ 2000) = true from rfl, decide_eq_true (show (2000 : Int) ≤ code.length by omega), Bool.and_self, slices0]
    exact Ev.step 1 (fun k => F51c3_eq k _) (Ev.now _)
  · refine ⟨code, ⟨by omega, w⟩, Ev.step 2 (fun k => F51_eq k _) ?_⟩
    simp only [decide_eq_false (show ¬ (code.length : Int) > 2000 by omega), Bool.false_eq_true, if_false]
    exact Ev.step 1 (fun k => F51c3_eq k _) (Ev.now _)
theorem z16 {z : Int} (h : z.natAbs < 10000 ^ 16) : (digs z.natAbs).length ≤ 16 := digs_len_le h
section
variable {bs : List Int} (hb : Rd bs)
include hb
end
end Go.Proofs.Ytldjfonpegffiaa.R
end

section
/-! Rf: what the laws draw: values. -/
set_option autoImplicit false
set_option linter.unusedSimpArgs false
set_option linter.unusedVariables false
namespace Go.Proofs.Ytldjfonpegffiaa.R
open Go.Rf
section
variable {bs : List Int} (hb : Rd bs)
include hb
theorem of_ev {p : Nat} (hp : p ≤ 1000000000) (l : List ByteArray) (hl : 0 < l.length) (hl2 : l.length ≤ 1000) : ∃ v ∈ l, Ev (fun k => F52 k bs (p : Int) l) ((v, ()), ((bs, ((p + 1 : Nat) : Int), ()), (), ())) := by
  obtain ⟨v, ⟨h0, h1, _⟩, h2⟩ := pick_ev hb hp (l.length : Int)
  have h1 := h1 (by omega)
  obtain ⟨y, hy⟩ : ∃ y, l[v.toNat]? = some y := ⟨_, List.getElem?_eq_getElem (by omega)⟩
  refine ⟨y, List.mem_of_getElem? hy, Ev.step 2 (fun k => F52_eq k _ _ _) (Ev.bind h2 ?_)⟩
  simp only [decide_eq_true h0, decide_eq_true h1, Bool.and_self, if_true, hy, Option.bind_some]
  exact Ev.now _
end
end Go.Proofs.Ytldjfonpegffiaa.R
end

section
/-! Rf: disks are drawn. -/
set_option autoImplicit false
set_option linter.unusedSimpArgs false
set_option linter.unusedVariables false
namespace Go.Proofs.Ytldjfonpegffiaa.R
open Go.Rf
/-- a disk that is drawn -/
def dk (c : List ByteArray) (w : List Wt) : Prop := c.length = 42 ∧ w.length ≤ 100 ∧ ∀ x ∈ w, 0 ≤ x.1 ∧ x.1 ≤ 41
theorem less_ev (a : Int) : ∃ v, Ev (fun k => F144 k a) ((v, ()), ((), ())) := by
  by_cases h : a > 0
  · refine ⟨IntKind.i64.wrap (a - 1), Ev.step 2 (fun k => F144_eq k _) ?_⟩
    simp only [decide_eq_true h, if_true]
    exact Ev.now _
  · refine ⟨a, Ev.step 2 (fun k => F144_eq k _) ?_⟩
    simp only [decide_eq_false h, Bool.false_eq_true, if_false]
    exact Ev.now _
theorem write_ev {c : List ByteArray} {w : List Wt} (h : dk c w) (r l a : Int) (s : ByteArray) : ∃ (w' : List Wt) (r' l' : Int) (b : Bool), dk c w' ∧ Ev (fun k => F128 k c w r l a s) (((c, w', r', l', ()), b, ()), (((), (), (), (), ()), (), (), ())) := by
  obtain ⟨h1, h2, h3⟩ := h
  have cp := l7Copy_ev c w r l (by omega) (by omega)
  by_cases e1 : l = 0
  · refine ⟨w, r, l, true, ⟨h1, h2, h3⟩, Ev.step 2 (fun k => F128_eq k _ _ _ _ _ _) ?_⟩
    simp only [beq_iff_eq.2 e1, if_true]
    exact Ev.bind cp (Ev.now _)
  have f1 := beq_eq_false_iff_ne.2 e1
  cases e2 : waitOkL (a, s, ()) with
  | false =>
    refine ⟨w, r, l, false, ⟨h1, h2, h3⟩, Ev.step 2 (fun k => F128_eq k _ _ _ _ _ _) ?_⟩
    simp only [f1, Bool.false_eq_true, if_false]
    refine Ev.bind (l7Wait_ev a s) ?_
    simp only [e2, Bool.not_false, if_true]
    exact Ev.bind cp (Ev.now _)
  | true =>
  by_cases e3 : r = 0
  · refine ⟨w, r, l, false, ⟨h1, h2, h3⟩, Ev.step 2 (fun k => F128_eq k _ _ _ _ _ _) ?_⟩
    simp only [f1, Bool.false_eq_true, if_false]
    refine Ev.bind (l7Wait_ev a s) ?_
    simp only [e2, Bool.not_true, Bool.false_eq_true, if_false, beq_iff_eq.2 e3, if_true]
    exact Ev.bind cp (Ev.now _)
  have f3 := beq_eq_false_iff_ne.2 e3
  by_cases e4 : w.length ≥ 100
  · refine ⟨w, r, l, false, ⟨h1, h2, h3⟩, Ev.step 2 (fun k => F128_eq k _ _ _ _ _ _) ?_⟩
    simp only [f1, Bool.false_eq_true, if_false]
    refine Ev.bind (l7Wait_ev a s) ?_
    simp only [e2, Bool.not_true, Bool.false_eq_true, if_false, f3, decide_eq_true (show (w.length : Int) ≥ 100 by omega), if_true]
    exact Ev.bind cp (Ev.now _)
  obtain ⟨v1, g1⟩ := less_ev l
  obtain ⟨v2, g2⟩ := less_ev r
  refine ⟨w ++ [(a, (s, ()))], v2, v1, true, ⟨h1, by simp; omega, fun x hx => ?_⟩, Ev.step 2 (fun k => F128_eq k _ _ _ _ _ _) ?_⟩
  · rcases List.mem_append.1 hx with hx | hx
    · exact h3 x hx
    · obtain rfl := List.mem_singleton.1 hx
      unfold waitOkL at e2
      simp only [Bool.and_eq_true, decide_eq_true_eq] at e2
      exact e2.1
  · simp only [f1, Bool.false_eq_true, if_false]
    refine Ev.bind (l7Wait_ev a s) ?_
    simp only [e2, Bool.not_true, Bool.false_eq_true, if_false, f3, decide_eq_false (show ¬ (w.length : Int) ≥ 100 by omega)]
    refine Ev.bind cp ?_
    simp only [decide_eq_true (show w.length + [(a, (s, ()))].length ≤ 5864062014805 by simp; omega), if_true]
    exact Ev.bind g1 (Ev.bind g2 (Ev.now _))
theorem sync_ev {c : List ByteArray} {w : List Wt} (h : dk c w) (r l : Int) : ∃ (c' : List ByteArray) (w' : List Wt) (r' l' : Int), dk c' w' ∧ Ev (fun k => F130 k c w r l) (((c', w', r', l', ()), ()), (((), (), (), (), ()), ())) := by
  obtain ⟨h1, h2, h3⟩ := h
  have cp := l7Copy_ev c w r l (by omega) (by omega)
  by_cases e1 : l = 0
  · refine ⟨c, w, r, l, ⟨h1, h2, h3⟩, Ev.step 2 (fun k => F130_eq k _ _ _ _) (Ev.bind cp ?_)⟩
    simp only [beq_iff_eq.2 e1, if_true]
    exact Ev.now _
  have f1 := beq_eq_false_iff_ne.2 e1
  obtain ⟨v1, g1⟩ := less_ev l
  have main : ∀ (n i : Nat) (x : List ByteArray), i + n = w.length → x.length = 42 → ∃ c' : List ByteArray, c'.length = 42 ∧ Ev (fun k => F130c5 k c w r l [] [] 0 0 x w r l (i : Int)) (((c', [], r, v1, ()), ()), (((), (), (), (), ()), ())) := by
    intro n
    induction n with
    | zero =>
      intro i x hi hx
      refine ⟨x, hx, Ev.step 1 (fun k => F130c5_eq k _ _ _ _ _ _ _ _ _ _ _ _ _) ?_⟩
      simp only [lt_false (show w.length ≤ i by omega), Bool.false_eq_true, if_false]
      exact Ev.bind g1 (Ev.now _)
    | succ n ih =>
      intro i x hi hx
      have hlt : i < w.length := by omega
      have hw := h3 _ (List.getElem_mem hlt)
      have hin : (decide (0 ≤ w[i].1) && decide (w[i].1 < (x.length : Int))) = true := by rw [hx]; simp; omega
      have hg : x[w[i].1.toNat]? = some x[w[i].1.toNat] := List.getElem?_eq_getElem (by omega)
      obtain ⟨c', g, g2⟩ := ih (i + 1) (x.set w[i].1.toNat w[i].2.1) (by omega) (by rw [List.length_set]; exact hx)
      refine ⟨c', g, Ev.step 1 (fun k => F130c5_eq k _ _ _ _ _ _ _ _ _ _ _ _ _) ?_⟩
      simp only [lt_true hlt, ge0, if_true, Int.toNat_natCast, get_some hlt, Option.bind_some, hin, hg, wrap_succ (show i < 9223372036854775807 by omega)]
      exact g2
  obtain ⟨c', g, g2⟩ := main w.length 0 c (by omega) h1
  refine ⟨c', [], r, v1, ⟨g, by decide, fun x hx => by cases hx⟩, Ev.step 2 (fun k => F130_eq k _ _ _ _) (Ev.bind cp ?_)⟩
  simp only [f1, Bool.false_eq_true, if_false]
  exact g2
theorem DiskNew_sp : Ev (fun k => F18 k) (((List.replicate 42 ByteArray.empty, [], -1, -1, ()), ()), ()) := Ev.step 2 (fun k => F18_eq k) (Ev.now _)
theorem manyT_ev (a : ByteArray) (h1 : a.size = 1) : ∃ t : ByteArray, Ev (fun k => F109 k a 1201) ((t, ()), ((), (), ())) := by
  have main : ∀ (m : Nat) (s : ByteArray), s.size + m ≤ 5000 → ∃ t : ByteArray, Ev (fun k => F109c2 k a (m : Int) s) ((t, ()), ((), (), ())) := by
    intro m
    induction m with
    | zero =>
      intro s hm
      refine ⟨s, Ev.step 1 (fun k => F109c2_eq k _ _ _) ?_⟩
      simp only [show decide (((0 : Nat) : Int) > 0) = false from by decide, Bool.false_eq_true, if_false]
      exact Ev.now _
    | succ m ih =>
      intro s hm
      have hsz : (s ++ a).size = s.size + 1 := by rw [size_app, h1]
      obtain ⟨t, hE⟩ := ih (s ++ a) (by omega)
      have e : IntKind.i64.wrap (((m + 1 : Nat) : Int) - 1) = (m : Int) := by rw [wrap64 (by omega) (by omega)]; omega
      have hble : Nat.ble (s.size + a.size) 9223372036854775807 = true := Nat.ble_eq_true_of_le (by omega)
      refine ⟨t, Ev.step 1 (fun k => F109c2_eq k _ _ _) ?_⟩
      simp only [decide_eq_true (show ((m + 1 : Nat) : Int) > 0 by omega), if_true, hble, e]
      exact hE
  obtain ⟨t, h⟩ := main 1201 ⟨#[]⟩ (by decide)
  exact ⟨t, Ev.step 2 (fun k => F109_eq k _ _) h⟩
section
variable {bs : List Int} (hb : Rd bs)
include hb
theorem page_ev {p : Nat} (hp : p ≤ 1000000000) : ∃ t : ByteArray, Ev (fun k => F129 k bs (p : Int)) ((t, ()), ((bs, ((p + 1 : Nat) : Int), ()), ())) := by
  obtain ⟨t, _, h⟩ := of_ev hb hp [(⟨#[]⟩ : ByteArray), (⟨#[97]⟩ : ByteArray), (⟨#[98, 98]⟩ : ByteArray), (⟨#[112, 97, 103, 101]⟩ : ByteArray), (⟨#[58, 49, 46, 49, 59]⟩ : ByteArray), (⟨#[72, 50, 46, 50, 59]⟩ : ByteArray), (⟨#[49, 32, 49, 32, 48, 32, 48, 32, 33, 32, 49, 58, 120, 58, 49, 46, 49, 59]⟩ : ByteArray), (⟨#[108, 111, 110, 103, 32, 116, 101, 120, 116, 32, 116, 104, 97, 116, 32, 105, 115, 32, 108, 111, 110, 103, 101, 114, 32, 116, 104, 97, 110, 32, 111, 116, 104, 101, 114, 115]⟩ : ByteArray), (⟨#[48, 49, 50, 51, 52, 53, 54, 55, 56, 57]⟩ : ByteArray), (⟨#[97, 98, 99, 100, 101, 102, 103, 104, 105, 106]⟩ : ByteArray)] (by decide) (by decide)
  exact ⟨t, Ev.step 2 (fun k => F129_eq k _ _) (Ev.bind h (Ev.now _))⟩
theorem diskC9 : ∀ (m : Nat) {p : Nat} {c : List ByteArray} {w : List Wt} (r l : Int), m ≤ 10 → p + 4 * m + 4 ≤ 1000000 → dk c w → ∃ (c' : List ByteArray) (w' : List Wt) (r' l' : Int) (q : Nat), dk c' w' ∧ q ≤ p + 4 * m + 4 ∧ Ev (fun k => F108c9 k bs (p : Int) [] [] 0 0 c w r l (m : Int)) (((c', w', r', l', ()), ()), ((bs, (q : Int), ()), ())) := by
  intro m
  induction m with
  | zero =>
    intro p c w r l _ hp h
    obtain ⟨v1, _, g1⟩ := one_ev hb (show p ≤ 1000000000 by omega) [(-1 : Int), (-1 : Int), (-1 : Int), (0 : Int), (1 : Int), (3 : Int)] (by decide)
    obtain ⟨v2, _, g2⟩ := one_ev hb (show p + 1 ≤ 1000000000 by omega) [(-1 : Int), (-1 : Int), (-1 : Int), (0 : Int), (1 : Int), (2 : Int)] (by decide)
    refine ⟨c, w, v1, v2, p + 2, h, by omega, Ev.step 1 (fun k => F108c9_eq k _ _ _ _ _ _ _ _ _ _ _) ?_⟩
    simp only [show decide (((0 : Nat) : Int) > 0) = false from by decide, Bool.false_eq_true, if_false]
    exact Ev.bind g1 (Ev.bind g2 (Ev.now _))
  | succ m ih =>
    intro p c w r l hm hp h
    obtain ⟨v1, _, g1⟩ := pick_ev hb (show p ≤ 1000000000 by omega) 42
    obtain ⟨v2, _, g2⟩ := one_ev hb (show p + 1 ≤ 1000000000 by omega) [(0 : Int), (1 : Int), (2 : Int), (22 : Int), v1] (by simp)
    obtain ⟨t, g3⟩ := page_ev hb (show p + 1 + 1 ≤ 1000000000 by omega)
    obtain ⟨w1, r1, l1, b1, h1, g4⟩ := write_ev h r l v2 t
    obtain ⟨c', w', r', l', q, d1, d2, d3⟩ := ih (p := p + 1 + 1 + 1) r1 l1 (by omega) (by omega) h1
    refine ⟨c', w', r', l', q, d1, by omega, Ev.step 1 (fun k => F108c9_eq k _ _ _ _ _ _ _ _ _ _ _) ?_⟩
    have e : IntKind.i64.wrap (((m + 1 : Nat) : Int) - 1) = (m : Int) := by rw [wrap64 (by omega) (by omega)]; omega
    simp only [decide_eq_true (show ((m + 1 : Nat) : Int) > 0 by omega), if_true, e]
    exact Ev.bind g1 (Ev.bind g2 (Ev.bind g3 (Ev.bind g4 d3)))
theorem diskC8 {p : Nat} {c : List ByteArray} {w : List Wt} (r l : Int) (hp : p + 100 ≤ 1000000) (h : dk c w) : ∃ (c' : List ByteArray) (w' : List Wt) (r' l' : Int) (q : Nat), dk c' w' ∧ q ≤ p + 100 ∧ Ev (fun k => F108c8 k bs (p : Int) [] [] 0 0 c w r l) (((c', w', r', l', ()), ()), ((bs, (q : Int), ()), ())) := by
  obtain ⟨v1, ⟨a0, a1, _⟩, g1⟩ := pick_ev hb (show p ≤ 1000000000 by omega) 6
  obtain ⟨m, rfl⟩ : ∃ m : Nat, v1 = (m : Int) := ⟨v1.toNat, by omega⟩
  obtain ⟨c', w', r', l', q, d1, d2, d3⟩ := diskC9 hb m (p := p + 1) r l (by have := a1 (by omega); omega) (by have := a1 (by omega); omega) h
  exact ⟨c', w', r', l', q, d1, by have := a1 (by omega); omega, Ev.step 1 (fun k => F108c8_eq k _ _ _ _ _ _ _ _ _ _) (Ev.bind g1 d3)⟩
theorem diskC3 : ∀ (m : Nat) {p : Nat} {c : List ByteArray} {w : List Wt} (r l : Int), m ≤ 10 → p + 4 * m + 200 ≤ 1000000 → dk c w → ∃ (c' : List ByteArray) (w' : List Wt) (r' l' : Int) (q : Nat), dk c' w' ∧ q ≤ p + 4 * m + 200 ∧ Ev (fun k => F108c3 k bs (p : Int) [] [] 0 0 c w r l (m : Int)) (((c', w', r', l', ()), ()), ((bs, (q : Int), ()), ())) := by
  intro m
  induction m with
  | zero =>
    intro p c w r l _ hp h
    obtain ⟨v1, _, g1⟩ := pick_ev hb (show p ≤ 1000000000 by omega) 2
    cases e : v1 == (0 : Int) with
    | true =>
      obtain ⟨c1, w1, r1, l1, h1, g2⟩ := sync_ev h r l
      obtain ⟨c', w', r', l', q, d1, d2, d3⟩ := diskC8 hb (p := p + 1) r1 l1 (by omega) h1
      refine ⟨c', w', r', l', q, d1, by omega, Ev.step 1 (fun k => F108c3_eq k _ _ _ _ _ _ _ _ _ _ _) ?_⟩
      simp only [show decide (((0 : Nat) : Int) > 0) = false from by decide, Bool.false_eq_true, if_false]
      refine Ev.bind g1 ?_
      simp only [e, if_true]
      exact Ev.bind g2 d3
    | false =>
      obtain ⟨c', w', r', l', q, d1, d2, d3⟩ := diskC8 hb (p := p + 1) r l (by omega) h
      refine ⟨c', w', r', l', q, d1, by omega, Ev.step 1 (fun k => F108c3_eq k _ _ _ _ _ _ _ _ _ _ _) ?_⟩
      simp only [show decide (((0 : Nat) : Int) > 0) = false from by decide, Bool.false_eq_true, if_false]
      refine Ev.bind g1 ?_
      simp only [e, Bool.false_eq_true, if_false]
      exact d3
  | succ m ih =>
    intro p c w r l hm hp h
    obtain ⟨v1, _, g1⟩ := pick_ev hb (show p ≤ 1000000000 by omega) 42
    obtain ⟨v2, _, g2⟩ := one_ev hb (show p + 1 ≤ 1000000000 by omega) [(0 : Int), (1 : Int), (2 : Int), (3 : Int), (21 : Int), (22 : Int), (23 : Int), (41 : Int), v1] (by simp)
    obtain ⟨t, g3⟩ := page_ev hb (show p + 1 + 1 ≤ 1000000000 by omega)
    obtain ⟨w1, r1, l1, b1, h1, g4⟩ := write_ev h r l v2 t
    obtain ⟨c', w', r', l', q, d1, d2, d3⟩ := ih (p := p + 1 + 1 + 1) r1 l1 (by omega) (by omega) h1
    refine ⟨c', w', r', l', q, d1, by omega, Ev.step 1 (fun k => F108c3_eq k _ _ _ _ _ _ _ _ _ _ _) ?_⟩
    have e : IntKind.i64.wrap (((m + 1 : Nat) : Int) - 1) = (m : Int) := by rw [wrap64 (by omega) (by omega)]; omega
    simp only [decide_eq_true (show ((m + 1 : Nat) : Int) > 0 by omega), if_true, e]
    exact Ev.bind g1 (Ev.bind g2 (Ev.bind g3 (Ev.bind g4 d3)))
theorem disk_ev {p : Nat} (hp : p + 300 ≤ 1000000) : ∃ (c' : List ByteArray) (w' : List Wt) (r' l' : Int) (q : Nat), dk c' w' ∧ q ≤ p + 300 ∧ Ev (fun k => F108 k bs (p : Int)) (((c', w', r', l', ()), ()), ((bs, (q : Int), ()), ())) := by
  obtain ⟨v1, ⟨a0, a1, _⟩, g1⟩ := pick_ev hb (show p ≤ 1000000000 by omega) 6
  obtain ⟨m, rfl⟩ : ∃ m : Nat, v1 = (m : Int) := ⟨v1.toNat, by omega⟩
  have hm := a1 (by omega)
  obtain ⟨c', w', r', l', q, d1, d2, d3⟩ := diskC3 hb m (p := p + 1) (c := List.replicate 42 ByteArray.empty) (w := []) (-1) (-1) (by omega) (by omega) ⟨List.length_replicate, by decide, fun x hx => by cases hx⟩
  exact ⟨c', w', r', l', q, d1, by omega, Ev.step 2 (fun k => F108_eq k _ _) (Ev.bind DiskNew_sp (Ev.bind g1 d3))⟩
theorem anyC14 {c : List ByteArray} {r l : Int} : ∀ (m : Nat) {p : Nat} {w : List Wt}, w.length + m = max 101 w.length → w.length ≤ 101 → p + m + 2 ≤ 1000000 → ∃ (w' : List Wt) (q : Nat), w'.length ≤ 200 ∧ q ≤ p + m + 2 ∧ Ev (fun k => F76c14 k bs (p : Int) [] [] 0 0 c w r l) (((c, w', r, l, ()), ()), ((bs, (q : Int), ()), ())) := by
  intro m
  induction m with
  | zero =>
    intro p w hw hw2 hp
    obtain ⟨v1, ⟨a0, a1, _⟩, g1⟩ := pick_ev hb (show p ≤ 1000000000 by omega) 2
    have hv := a1 (by omega)
    refine ⟨w, p + 1, by omega, by omega, Ev.step 1 (fun k => F76c14_eq k _ _ _ _ _ _ _ _ _ _) (Ev.bind g1 ?_)⟩
    have e : IntKind.i64.wrap ((100 : Int) + v1) = 100 + v1 := wrap64 (by omega) (by omega)
    simp only [e, decide_eq_false (show ¬ (w.length : Int) < 100 + v1 by omega), Bool.false_eq_true, if_false]
    exact Ev.step 1 (fun k => F76c16_eq k _ _ _ _ _ _ _ _ _ _) (Ev.now _)
  | succ m ih =>
    intro p w hw hw2 hp
    obtain ⟨v1, ⟨a0, a1, _⟩, g1⟩ := pick_ev hb (show p ≤ 1000000000 by omega) 2
    have hv := a1 (by omega)
    have e : IntKind.i64.wrap ((100 : Int) + v1) = 100 + v1 := wrap64 (by omega) (by omega)
    by_cases h : (w.length : Int) < 100 + v1
    · have hl : (w ++ [((5 : Int), ((⟨#[119]⟩ : ByteArray), ()))]).length = w.length + 1 := by simp
      obtain ⟨w', q, d1, d2, d3⟩ := ih (p := p + 1) (w := w ++ [((5 : Int), ((⟨#[119]⟩ : ByteArray), ()))]) (by omega) (by omega) (by omega)
      refine ⟨w', q, d1, by omega, Ev.step 1 (fun k => F76c14_eq k _ _ _ _ _ _ _ _ _ _) (Ev.bind g1 ?_)⟩
      simp only [e, decide_eq_true h, if_true, decide_eq_true (show w.length + [((5 : Int), ((⟨#[119]⟩ : ByteArray), ()))].length ≤ 5864062014805 by simp; omega)]
      exact d3
    · refine ⟨w, p + 1, by omega, by omega, Ev.step 1 (fun k => F76c14_eq k _ _ _ _ _ _ _ _ _ _) (Ev.bind g1 ?_)⟩
      simp only [e, decide_eq_false h, Bool.false_eq_true, if_false]
      exact Ev.step 1 (fun k => F76c16_eq k _ _ _ _ _ _ _ _ _ _) (Ev.now _)
theorem anyDisk_ev {p : Nat} (hp : p + 1000 ≤ 1000000) : ∃ (c : List ByteArray) (w : List Wt) (r l : Int) (q : Nat), c.length ≤ 42 ∧ w.length ≤ 200 ∧ q ≤ p + 1000 ∧ Ev (fun k => F76 k bs (p : Int)) (((c, w, r, l, ()), ()), ((bs, (q : Int), ()), ())) := by
  obtain ⟨c, w, r, l, q, ⟨h1, h2, h3⟩, hq, g1⟩ := disk_ev hb (p := p) (by omega)
  obtain ⟨v, ⟨a0, a1, _⟩, g2⟩ := pick_ev hb (show q ≤ 1000000000 by omega) 24
  have last : ∀ (c : List ByteArray) (w : List Wt) (r l : Int) (q : Nat), Ev (fun k => F76c16 k bs (q : Int) [] [] 0 0 c w r l) (((c, w, r, l, ()), ()), ((bs, (q : Int), ()), ())) := fun c w r l q => Ev.step 1 (fun k => F76c16_eq k _ _ _ _ _ _ _ _ _ _) (Ev.now _)
  cases e0 : (v == (0 : Int)) with
  | true =>
    refine ⟨slices c 1 c.length, w, r, l, q + 1, by unfold slices; simp; omega, by omega, by omega, Ev.step 2 (fun k => F76_eq k _ _) (Ev.bind g1 (Ev.bind g2 ?_))⟩
    simp only [e0, if_true, show decide ((0 : Int) ≤ 1) = true from rfl, decide_eq_true (show (1 : Int) ≤ (c.length : Int) by omega), Bool.and_self]
    exact last _ _ _ _ _
  | false =>
  cases e1 : (v == (1 : Int)) with
  | true =>
    refine ⟨c, w, -2, l, q + 1, by omega, by omega, by omega, Ev.step 2 (fun k => F76_eq k _ _) (Ev.bind g1 (Ev.bind g2 ?_))⟩
    simp only [e0, e1, Bool.false_eq_true, if_false, if_true]
    exact last _ _ _ _ _
  | false =>
  cases e2 : (v == (2 : Int)) with
  | true =>
    obtain ⟨v3, _, g3⟩ := one_ev hb (show q + 1 ≤ 1000000000 by omega) [(-1 : Int), (42 : Int)] (by decide)
    refine ⟨c, w ++ [(v3, (ByteArray.empty, ()))], r, l, q + 1 + 1, by omega, by simp; omega, by omega, Ev.step 2 (fun k => F76_eq k _ _) (Ev.bind g1 (Ev.bind g2 ?_))⟩
    simp only [e0, e1, e2, Bool.false_eq_true, if_false, if_true]
    refine Ev.bind g3 ?_
    simp only [decide_eq_true (show w.length + [(v3, (ByteArray.empty, ()))].length ≤ 5864062014805 by simp; omega), if_true]
    exact last _ _ _ _ _
  | false =>
  cases e3 : (v == (3 : Int)) with
  | true =>
    obtain ⟨t, g3⟩ := manyT_ev ⟨#[99]⟩ rfl
    refine ⟨c.set 0 t, w, r, l, q + 1, by rw [List.length_set]; omega, by omega, by omega, Ev.step 2 (fun k => F76_eq k _ _) (Ev.bind g1 (Ev.bind g2 ?_))⟩
    simp only [e0, e1, e2, e3, Bool.false_eq_true, if_false, if_true]
    refine Ev.bind g3 ?_
    simp only [show decide ((0 : Int) ≤ 0) = true from rfl, decide_eq_true (show (0 : Int) < (c.length : Int) by omega), Bool.and_self, if_true, List.getElem?_eq_getElem (show 0 < c.length by omega), Option.bind_some]
    exact last _ _ _ _ _
  | false =>
  cases e4 : (v == (4 : Int)) with
  | true =>
    refine ⟨c, w, r, -2, q + 1, by omega, by omega, by omega, Ev.step 2 (fun k => F76_eq k _ _) (Ev.bind g1 (Ev.bind g2 ?_))⟩
    simp only [e0, e1, e2, e3, e4, Bool.false_eq_true, if_false, if_true]
    exact last _ _ _ _ _
  | false =>
  cases e5 : (v == (5 : Int)) with
  | true =>
    obtain ⟨w', q', d1, d2, d3⟩ := anyC14 hb (c := c) (r := r) (l := l) (101 - w.length) (p := q + 1) (w := w) (by omega) (by omega) (by omega)
    refine ⟨c, w', r, l, q', by omega, by omega, by omega, Ev.step 2 (fun k => F76_eq k _ _) (Ev.bind g1 (Ev.bind g2 ?_))⟩
    simp only [e0, e1, e2, e3, e4, e5, Bool.false_eq_true, if_false, if_true]
    exact d3
  | false =>
    refine ⟨c, w, r, l, q + 1, by omega, by omega, by omega, Ev.step 2 (fun k => F76_eq k _ _) (Ev.bind g1 (Ev.bind g2 ?_))⟩
    simp only [e0, e1, e2, e3, e4, e5, Bool.false_eq_true, if_false]
    exact last _ _ _ _ _
theorem mask_ev {p : Nat} (hp : p + 10 ≤ 1000000) : ∃ v : Int, v < 2 ^ 62 ∧ Ev (fun k => F78 k bs (p : Int)) ((v, ()), ((bs, ((p + 4 : Nat) : Int), ()), ())) := by
  obtain ⟨v1, ⟨a0, a1, _⟩, g1⟩ := pick_ev hb (show p ≤ 1000000000 by omega) 256
  obtain ⟨v2, ⟨b0, b1, _⟩, g2⟩ := pick_ev hb (show p + 1 ≤ 1000000000 by omega) 256
  obtain ⟨v3, ⟨c0, c1, _⟩, g3⟩ := pick_ev hb (show p + 1 + 1 ≤ 1000000000 by omega) 256
  have a1 := a1 (by omega)
  have b1 := b1 (by omega)
  have c1 := c1 (by omega)
  have e1 : IntKind.i64.wrap (v2 * 256) = v2 * 256 := wrap64 (by omega) (by omega)
  have e2 : IntKind.i64.wrap (v2 * 256 + v3) = v2 * 256 + v3 := wrap64 (by omega) (by omega)
  obtain ⟨v, hv, g4⟩ := one_ev hb (show p + 1 + 1 + 1 ≤ 1000000000 by omega) [(0 : Int), (1 : Int), (2 : Int), (3 : Int), (4 : Int), (5 : Int), (6 : Int), (7 : Int), (8 : Int), (1099511627776 : Int), (1152921504606846975 : Int), v1, v2 * 256 + v3] (by simp)
  refine ⟨v, ?_, Ev.step 2 (fun k => F78_eq k _ _) (Ev.bind g1 (Ev.bind g2 (Ev.bind g3 ?_)))⟩
  · rw [show (2 : Int) ^ 62 = 4611686018427387904 by decide]
    simp only [List.mem_cons, List.not_mem_nil, or_false] at hv
    omega
  · simp only [e1, e2]
    exact Ev.bind g4 (Ev.now _)
end
theorem drawDiskCrash_ev (code : List Int) (w : ∀ y ∈ code, 0 ≤ y ∧ y ≤ 255) : ∃ (c : List ByteArray) (ws : List Wt) (r l m t b : Int), c.length ≤ 42 ∧ ws.length ≤ 200 ∧ m < 2 ^ 62 ∧ Ev (fun f => F34 f code) (((c, ws, r, l, ()), m, t, b, ()), ((), ())) := by
  obtain ⟨bs, hb, h1⟩ := open_ev code w
  obtain ⟨c, ws, r, l, q, d1, d2, d3, h2⟩ := anyDisk_ev hb (p := 0) (by omega)
  obtain ⟨m1, b1, g1⟩ := mask_ev hb (p := q) (by omega)
  obtain ⟨m2, b2, g2⟩ := mask_ev hb (p := q + 4) (by omega)
  obtain ⟨m3, b3, g3⟩ := mask_ev hb (p := q + 4 + 4) (by omega)
  obtain ⟨m, hm, g4⟩ := one_ev hb (show q + 4 + 4 + 4 ≤ 1000000000 by omega) [m1, m2, m3, (-1 : Int)] (by simp)
  obtain ⟨v1, _, g5⟩ := pick_ev hb (show q + 4 + 4 + 4 + 1 ≤ 1000000000 by omega) 8
  obtain ⟨v2, _, g6⟩ := pick_ev hb (show q + 4 + 4 + 4 + 1 + 1 ≤ 1000000000 by omega) 30
  obtain ⟨v3, _, g7⟩ := one_ev hb (show q + 4 + 4 + 4 + 1 + 1 + 1 ≤ 1000000000 by omega) [(-1 : Int), (0 : Int), (1 : Int), (2 : Int), (3 : Int), (5 : Int), (8 : Int), (100 : Int), v2] (by simp)
  refine ⟨c, ws, r, l, m, _, v3, d1, d2, ?_, Ev.step 2 (fun f => F34_eq f _) (Ev.bind h1 (Ev.bind h2 (Ev.bind g1 (Ev.bind g2 (Ev.bind g3 (Ev.bind g4 (Ev.bind g5 (Ev.bind g6 (Ev.bind g7 (Ev.now _))))))))))⟩
  simp only [List.mem_cons, List.not_mem_nil, or_false] at hm
  rcases hm with rfl | rfl | rfl | rfl
  · exact b1
  · exact b2
  · exact b3
  · decide
end Go.Proofs.Ytldjfonpegffiaa.R
end

section
/-! Rf: decimals in order, as whole numbers with a scale: what the functions answer. -/
set_option autoImplicit false
set_option linter.unusedSimpArgs false
set_option linter.unusedVariables false
namespace Go.Proofs.Ytldjfonpegffiaa.R
open Go.Rf
/-- are two decimals written alike? -/
def alike (n1 : Bool) (l1 : List Int) (s1 : Int) (n2 : Bool) (l2 : List Int) (s2 : Int) : Bool := (s1 == s2) && ((n1 == n2) && decide (l1 = l2))
theorem alike_self (n : Bool) (l : List Int) (s : Int) : alike n l s n l s = true := by simp [alike]
theorem digs_inj {a b : Nat} (h : digs a = digs b) : a = b := by
  have h1 := VI_digs a
  have h2 := VI_digs b
  rw [h] at h1
  omega
theorem alike_D {z1 z2 : Int} {s1 s2 : Nat} : alike (decide (z1 < 0)) (digs z1.natAbs) (s1 : Int) (decide (z2 < 0)) (digs z2.natAbs) (s2 : Int) = decide (z1 = z2 ∧ s1 = s2) := by
  unfold alike
  by_cases h : z1 = z2 ∧ s1 = s2
  · obtain ⟨rfl, rfl⟩ := h
    simp
  · rw [decide_eq_false h]
    by_cases hs : s1 = s2
    · have hz : z1 ≠ z2 := fun e => h ⟨e, hs⟩
      have : ¬ (decide (z1 < 0) = decide (z2 < 0) ∧ digs z1.natAbs = digs z2.natAbs) := by
        rintro ⟨h1, h2⟩
        have h3 := digs_inj h2
        have h4 : (z1 < 0) ↔ (z2 < 0) := by simpa using h1
        omega
      by_cases hd : decide (z1 < 0) = decide (z2 < 0)
      · simp only [hd, beq_self_eq_true, Bool.true_and, decide_eq_false (fun e => this ⟨hd, e⟩), Bool.and_false]
      · rw [beq_eq_false_iff_ne.2 hd, Bool.false_and, Bool.and_false]
    · have : ((s1 : Int) == (s2 : Int)) = false := by rw [beq_eq_false_iff_ne]; omega
      rw [this, Bool.false_and]
section
variable (n1 : Bool) (l1 : List Int) (s1 : Int) (n2 : Bool) (l2 : List Int) (s2 : Int)
end
section
variable {z1 z2 : Int} {s1 s2 : Nat} (h1 : z1.natAbs < 10 ^ 30) (h2 : z2.natAbs < 10 ^ 30) (t1 : s1 ≤ 12) (t2 : s2 ≤ 12)
include h1 h2 t1 t2
end
theorem mk_fine {z : Int} {s : Nat} (h : z.natAbs < 10 ^ 30) : mk z s = (D z s, 0, ()) := if_pos h
theorem mk_over {z : Int} {s : Nat} (h : ¬ z.natAbs < 10 ^ 30) : mk z s = ((false, [], 0, ()), 3, ()) := if_neg h
theorem u8_of {y : Int} (h : wfT (.int .u8) y) : 0 ≤ y ∧ y ≤ 255 := by
  have h : (Lit.int .u8 y).wf = true := h
  simp [Lit.wf, IntKind.min, IntKind.max, IntKind.bits, IntKind.signed] at h
  omega
theorem cmpZ_eq (x : Int) : cmpZ x x = 0 := by unfold cmpZ; rw [if_neg (by omega), if_pos rfl]
theorem cmpZ_zero {x y : Int} : cmpZ x y = 0 ↔ x = y := by
  unfold cmpZ
  constructor
  · intro h
    split at h
    · omega
    · split at h
      · assumption
      · omega
  · rintro rfl
    rw [if_neg (by omega), if_pos rfl]
theorem cmpZ_swap (x y : Int) : cmpZ y x = -cmpZ x y := by
  unfold cmpZ
  (repeat' split) <;> omega
theorem cmpZ_range (x y : Int) : cmpZ x y = -1 ∨ cmpZ x y = 0 ∨ cmpZ x y = 1 := by
  unfold cmpZ
  (repeat' split) <;> simp
end Go.Proofs.Ytldjfonpegffiaa.R
end

section
/-! Rf: the law FnDiskCrash, with no machine in sight. -/
set_option autoImplicit false
set_option linter.unusedSimpArgs false
set_option linter.unusedVariables false
namespace Go.Proofs.Ytldjfonpegffiaa.R
open Go.Rf
theorem DiskRead_ev {c : List ByteArray} {w : List Wt} {r l : Int} (h : diskOkL c w r l = true) {n : Nat} (hn : n < 42) : Ev (fun k => F33 k c w r l (n : Int)) ((readL w c (n : Int), ()), (((), (), (), (), ()), (), ())) := by
  obtain ⟨s1, s2, s3⟩ := ok_sz h
  have e : diskreadR ((c, w, r, l, ()), (n : Int), ()) = some ((readL w c (n : Int), ()), (((), (), (), (), ()), (), ())) := by
    unfold diskreadR
    dsimp only
    rw [Nat.ble_eq_true_of_le (show c.length ≤ 1048576 by rw [s1.1]; omega), Nat.ble_eq_true_of_le (show w.length ≤ 1048576 by omega), if_pos ⟨h, by omega, by omega⟩]
    rfl
  exact Ev.step 1 (fun k => F33_eq k _ _ _ _ _) (by rw [e]; exact Ev.now _)
theorem cells_eq {a b : ByteArray} : (a.toList == b.toList) = true ↔ a = b := by
  rw [beq_iff_eq]
  constructor
  · intro h
    rw [Lib.toList_data, Lib.toList_data] at h
    exact ByteArray.ext (Array.toList_inj.1 h)
  · rintro rfl; rfl
theorem lawC16 {c : List ByteArray} {ws : List Wt} {r l t : Int} {g : List ByteArray} {w7 : List Wt} {g2 g3 : Int} {c8 : List ByteArray} {w8 : List Wt} {r8 l8 : Int} {c9 : List ByteArray} {w9 : List Wt} {r9 l9 : Int} {n : Nat} {x73 : List ByteArray} {x74 : Int} {x76 : ByteArray} {y0 : List ByteArray} {y1 : List Wt} {y2 y3 x78 : Int} {x79 : ByteArray} {x80 : Bool}
    (hn : n < 42) (hl : ws.length ≤ 100) (hg : g.length = 42) {R : (Bool × Unit) × (Unit × Unit)} (hx : Ev (fun k => F9c10 k c ws r l t g w7 g2 g3 c8 w8 r8 l8 c9 w9 r9 l9 ((n + 1 : Nat) : Int)) R) : ∀ (m i : Nat) (b : Bool), i + m = ws.length →
    (b = true ∨ ∃ (j : Nat) (w : Wt), i ≤ j ∧ ws[j]? = some w ∧ w.1 = (n : Int) ∧ (w.2.1 = cellD g n ∨ (j : Int) = t)) → Ev (fun k => F9c16 k c ws r l t g w7 g2 g3 c8 w8 r8 l8 c9 w9 r9 l9 (n : Int) b (i : Int) x73 x74 x76 y0 y1 y2 y3 x78 x79 x80) R := by
  intro m
  induction m with
  | zero =>
    intro i b hi h
    have hb : b = true := by
      rcases h with h | ⟨j, w, h1, h2, _⟩
      · exact h
      · rw [List.getElem?_eq_none (by omega)] at h2
        cases h2
    subst hb
    refine Ev.step 1 (fun k => F9c16_eq k _ _ _ _ _ _ _ _ _ _ _ _ _ _ _ _ _ _ _ _ _ _ _ _ _ _ _ _ _ _) ?_
    simp only [lt_false (show ws.length ≤ i by omega), Bool.false_eq_true, if_false, Bool.not_true, wrap_succ (show n < 9223372036854775807 by omega)]
    exact hx
  | succ m ih =>
    intro i b hi h
    have hlt : i < ws.length := by omega
    have next : ∀ b' : Bool, (b' = true ∨ ∃ (j : Nat) (w : Wt), i + 1 ≤ j ∧ ws[j]? = some w ∧ w.1 = (n : Int) ∧ (w.2.1 = cellD g n ∨ (j : Int) = t)) → Ev (fun k => F9c17 k c ws r l t g w7 g2 g3 c8 w8 r8 l8 c9 w9 r9 l9 (n : Int) b' (i : Int) x73 x74 x76 y0 y1 y2 y3 x78 x79 x80) R := fun b' hb' => by
      refine Ev.step 1 (fun k => F9c17_eq k _ _ _ _ _ _ _ _ _ _ _ _ _ _ _ _ _ _ _ _ _ _ _ _ _ _ _ _ _ _) ?_
      rw [wrap_succ (show i < 9223372036854775807 by omega)]
      exact ih (i + 1) b' (by omega) hb'
    refine Ev.step 1 (fun k => F9c16_eq k _ _ _ _ _ _ _ _ _ _ _ _ _ _ _ _ _ _ _ _ _ _ _ _ _ _ _ _ _ _) ?_
    simp only [lt_true hlt, ge0, if_true, Int.toNat_natCast, get_some hlt, Option.bind_some]
    have later : ¬ (ws[i].1 = (n : Int) ∧ (ws[i].2.1 = cellD g n ∨ (i : Int) = t)) → (b = true ∨ ∃ (j : Nat) (w : Wt), i + 1 ≤ j ∧ ws[j]? = some w ∧ w.1 = (n : Int) ∧ (w.2.1 = cellD g n ∨ (j : Int) = t)) := fun hno => by
      rcases h with h | ⟨j, w, h1, h2, h3⟩
      · exact Or.inl h
      · refine Or.inr ⟨j, w, ?_, h2, h3⟩
        rcases Nat.lt_or_ge i j with hj | hj
        · exact hj
        · obtain rfl : j = i := by omega
          rw [get_some hlt] at h2
          obtain rfl := Option.some.inj h2
          exact absurd h3 hno
    by_cases e1 : ws[i].1 = (n : Int)
    · simp only [beq_iff_eq.2 e1, if_true, cell_get (show n < g.length by omega), Option.bind_some]
      by_cases e2 : ws[i].2.1 = cellD g n
      · simp only [cells_eq.2 e2, if_true]
        exact next true (Or.inl rfl)
      · have e2' : (ws[i].2.1.toList == (cellD g n).toList) = false := Bool.eq_false_iff.2 (fun hh => e2 (cells_eq.1 hh))
        simp only [e2', Bool.false_eq_true, if_false]
        by_cases e3 : (i : Int) = t
        · simp only [beq_iff_eq.2 e3, if_true]
          exact next true (Or.inl rfl)
        · simp only [beq_eq_false_iff_ne.2 e3, Bool.false_eq_true, if_false]
          exact next b (later fun hh => hh.2.elim e2 e3)
    · simp only [beq_eq_false_iff_ne.2 e1, Bool.false_eq_true, if_false]
      exact next b (later fun hh => e1 hh.1)
theorem FnDiskCrash : PureFnDiskCrash := by
  intro code w
  suffices h : Ev (fun k => F9 k code) ((true, ()), ((), ())) by
    obtain ⟨k, hk⟩ := h
    exact ⟨k, _, hk k (Nat.le_refl _)⟩
  by_cases hs : code.length > 1048576
  · refine Ev.step 2 (fun k => F9_eq k _) ?_
    simp only [decide_eq_true (show (code.length : Int) > 1048576 by omega), if_true]
    exact Ev.now _
  obtain ⟨c, ws, r, l, m, t, b, hc, hw, hm, h1⟩ := drawDiskCrash_ev code (fun y hy => u8_of (w.2 y hy))
  have im := fun m tear b hm => DiskCrash_im c ws r l m tear b (by omega) (by omega) hm
  have sp := DiskCrash_sp c ws r l m t b (by omega) (by omega) hm
  have bl : (crashO c ws r l m t b).1.length ≤ 1048576 ∧ (crashO c ws r l m t b).2.1.length ≤ 1048576 := by
    by_cases h : diskOkL c ws r l = true ∧ 0 ≤ m
    · obtain ⟨s1, s2, s3⟩ := ok_sz h.1
      rw [crashO_ok h.1 h.2]
      have := crashL_sz (m := m.toNat) (tear := t) (b := b) (i := 0) s1 s2
      exact ⟨by show (crashL _ _ _ _ _ _).length ≤ _; rw [this.1]; omega, by show 0 ≤ _; omega⟩
    · rw [crashO_bad h]
      exact ⟨by show 0 ≤ _; omega, by show 0 ≤ _; omega⟩
  have jt := jtDisk_ev (crashO c ws r l m t b).1 (crashO c ws r l m t b).2.1 (crashO c ws r l m t b).2.2.1 (crashO c ws r l m t b).2.2.2.1 bl.1 bl.2
  refine Ev.step 2 (fun k => F9_eq k _) ?_
  simp only [decide_eq_false (show ¬ (code.length : Int) > 1048576 by omega), Bool.false_eq_true, if_false]
  refine Ev.bind h1 (Ev.bind (im m t b hm) (Ev.bind sp (Ev.bind jt ?_)))
  simp only [Bool.not_true, Bool.false_eq_true, if_false]
  refine Ev.bind (DiskOk_sp c ws r l (by omega) (by omega)) ?_
  cases hk : diskOkL c ws r l with
  | false =>
    simp only [Bool.not_false, if_true]
    exact Ev.bind sp (Ev.bind jt (Ev.now _))
  | true =>
  simp only [Bool.not_true, Bool.false_eq_true, if_false]
  by_cases hneg : m < 0
  · simp only [decide_eq_true hneg, if_true]
    exact Ev.bind sp (Ev.bind jt (Ev.now _))
  simp only [decide_eq_false hneg, Bool.false_eq_true, if_false]
  have hm0 : 0 ≤ m := by omega
  refine Ev.bind (im 0 (-1) 0 (by decide)) (Ev.bind (im 1152921504606846975 (-1) 0 (by decide)) ?_)
  obtain ⟨s1, s2, s3⟩ := ok_sz hk
  rw [crashO_ok hk hm0, crashO_ok hk (by decide), crashO_ok hk (by decide)]
  have hgot := crashL_sz (m := m.toNat) (tear := t) (b := b) (i := 0) s1 s2
  have hall := crashL_sz (m := 1152921504606846975) (tear := -1) (b := 0) (i := 0) s1 s2
  have old := fun n (hn : n < 42) => crash_old (m := m.toNat) (tear := t) (b := b) (n := n) ws 0 c (fun w hw => (s2 w hw).1) (by rw [s1.1]; exact hn)
  have eall := fun n (hn : n < 42) => crash_all (b := 0) (n := n) ws 0 c (fun w hw => (s2 w hw).1) (by rw [s1.1]; exact hn)
  have ok2 := crash_ok (m := m.toNat) (tear := t) (b := b) s1 s2
  have enone : crashL (0 : Int).toNat (-1) 0 0 ws c = c := crash_none ws 0 c
  rw [enone]
  change Ev (fun k => F9c10 k c ws r l t (crashL m.toNat t b 0 ws c) [] (-1) (-1) c [] (-1) (-1) (crashL 1152921504606846975 (-1) 0 0 ws c) [] (-1) (-1) ((0 : Nat) : Int)) _
  generalize crashL m.toNat t b 0 ws c = G at *
  generalize crashL 1152921504606846975 (-1) 0 0 ws c = A at *
  have main : ∀ (n i : Nat), i + n = 42 → Ev (fun k => F9c10 k c ws r l t G [] (-1) (-1) c [] (-1) (-1) A [] (-1) (-1) (i : Int)) ((true, ()), ((), ())) := by
    intro n
    induction n with
    | zero =>
      intro i hi
      refine Ev.step 1 (fun k => F9c10_eq k _ _ _ _ _ _ _ _ _ _ _ _ _ _ _ _ _ _) ?_
      simp only [decide_eq_false (show ¬ (i : Int) < 42 by omega), Bool.false_eq_true, if_false]
      refine Ev.bind (DiskOk_im G [] (-1) (-1) (by rw [hgot.1]; omega) (by decide)) ?_
      simp only [ok2, if_true, List.length_nil]
      exact Ev.now _
    | succ n ih =>
      intro i hi
      have hi42 : i < 42 := by omega
      refine Ev.step 1 (fun k => F9c10_eq k _ _ _ _ _ _ _ _ _ _ _ _ _ _ _ _ _ _) ?_
      simp only [decide_eq_true (show (i : Int) < 42 by omega), ge0, if_true, Int.toNat_natCast, cell_get (show i < c.length by rw [s1.1]; omega), cell_get (show i < A.length by rw [hall.1]; omega), cell_get (show i < G.length by rw [hgot.1]; omega), Option.bind_some, beq_self_eq_true, Bool.not_true, Bool.false_eq_true, if_false]
      refine Ev.bind (DiskRead_ev hk hi42) ?_
      simp only [eall i hi42, beq_self_eq_true, Bool.not_true, Bool.false_eq_true, if_false]
      refine lawC16 hi42 s3 hgot.1 (ih (i + 1) (by omega)) ws.length 0 _ (by omega) ?_
      rcases old i hi42 with h | ⟨j, x, h1, h2, h3⟩
      · exact Or.inl (cells_eq.2 h)
      · exact Or.inr ⟨j, x, Nat.zero_le _, h1, h2, by rw [Nat.zero_add] at h3; exact h3⟩
  exact main 42 0 (by omega)
end Go.Proofs.Ytldjfonpegffiaa.R
end

section
/-- The row, under a short name, for the claim. -/
theorem Go.Proofs.Ytldjfonpegffiaa.fnDiskCrash_holds : Go.Proofs.Ytldjfonpegffiaa.Rows.FnDiskCrashSaid := Go.Proofs.Ytldjfonpegffiaa.fnDiskCrash.over Go.Proofs.Ytldjfonpegffiaa.R.FnDiskCrash
end
