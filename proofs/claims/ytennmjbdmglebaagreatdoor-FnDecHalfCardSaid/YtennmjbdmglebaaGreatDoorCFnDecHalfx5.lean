/- A part of the proof that the law FnDecHalf answers true for every input: contracts of functions that it reaches, or its plain law. -/
import Derived.Test.YtennmjbdmglebaaGreatDoorCFnDecHalfx0
import Derived.Test.YtennmjbdmglebaaGreatDoorCFnDecHalfx2
import Derived.Test.YtennmjbdmglebaaGreatDoorCFnDecHalfx3
import Derived.Test.YtennmjbdmglebaaGreatDoorCFnDecHalfx4
section
/-! Rf: division of limbs: both divisions come to the quotient and the rest. -/
set_option autoImplicit false
set_option linter.unusedSimpArgs false
set_option linter.unusedVariables false
namespace Go.Proofs.YtennmjbdmglebaaGreatDoor.R
open Go.Rf
theorem u64_small {x : Int} (h0 : 0 ≤ x) (h1 : x ≤ 9999) : IntKind.u64.wrap x = x := by
  unfold IntKind.wrap
  simp [IntKind.bits, IntKind.signed]
  omega
theorem mid_eq {lo hi : Nat} (h : hi ≤ 10000) (hl : lo ≤ 10000) : IntKind.i64.wrap ((IntKind.i64.wrap ((IntKind.i64.wrap ((lo : Int) + (hi : Int))) + (1 : Int))).tdiv (2 : Int)) = (((lo + hi + 1) / 2 : Nat) : Int) := by
  rw [wrap64 (n := (lo : Int) + (hi : Int)) (by omega) (by omega), wrap64 (n := (lo : Int) + (hi : Int) + 1) (by omega) (by omega), Int.tdiv_eq_ediv_of_nonneg (by omega), wrap64 (by omega) (by omega)]
  omega
theorem mid_eq0 {lo hi : Nat} (h : hi ≤ 10000) (hl : lo ≤ 10000) : IntKind.i64.wrap ((IntKind.i64.wrap ((lo : Int) + (hi : Int))).tdiv (2 : Int)) = (((lo + hi) / 2 : Nat) : Int) := by
  rw [wrap64 (n := (lo : Int) + (hi : Int)) (by omega) (by omega), Int.tdiv_eq_ediv_of_nonneg (by omega), wrap64 (by omega) (by omega)]
  omega
theorem limbsOf_ev {n : Nat} (h : n ≤ 9999) : Ev (fun k => F50 k (n : Int)) ((digs n, ()), ((), ())) := by
  refine Ev.step 2 (fun k => F50_eq k _) ?_
  have z : ∀ x : List Int, Ev (fun k => F50c2 k (0 : Int) x) ((x, ()), ((), ())) := fun x => Ev.step 1 (fun k => F50c2_eq k _ _) (Ev.now _)
  by_cases h0 : n = 0
  · subst h0
    rw [digs_zero]
    exact z []
  · refine Ev.step 1 (fun k => F50c2_eq k _ _) ?_
    have c1 : decide ((n : Int) > 0) = true := decide_eq_true (by omega)
    have c2 : IntKind.i64.wrap ((n : Int).tmod 10000) = (n : Int) := by
      rw [tmod_pos (by omega), Int.emod_eq_of_lt (by omega) (by omega)]
      exact wrap64 (by omega) (by omega)
    have c3 : IntKind.u64.wrap ((n : Int).tdiv 10000) = 0 := by
      rw [tdiv_pos (by omega), Int.ediv_eq_zero_of_lt (by omega) (by omega)]
      exact u64_small (by omega) (by omega)
    have c4 : decide (([] : List Int).length + [(n : Int)].length ≤ 17592186044416) = true := by simp
    simp only [c1, c2, c3, c4, if_true, List.nil_append]
    rw [digs_small (by omega) (by omega)]
    exact z _
theorem digs_InR (n : Nat) : InR (digs n) := (digs_spec n).1
theorem digs_Trim (n : Nat) : Trim (digs n) := (digs_spec n).2.1
theorem InR.one {d : Int} (h : 0 ≤ d ∧ d ≤ 9999) : InR [d] := InR.mk h InR.nil
theorem VI_one (d : Int) : VI [d] = d := by
  show d + 10000 * 0 = d
  omega
theorem cmpI_le {a b : Nat} : decide (cmpI a b ≤ 0) = decide (a ≤ b) := by
  unfold cmpI
  split
  · rw [decide_eq_true (by omega), decide_eq_true (by omega)]
  · split
    · rw [decide_eq_true (by omega), decide_eq_true (by omega)]
    · rw [decide_eq_false (by omega), decide_eq_false (by omega)]
section
variable {b : List Int} {B X : Nat}
theorem mulN (hb : InR b) (lb : b.length ≤ 1000) (hB : VI b = (B : Int)) {n : Nat} (hn : n ≤ 9999) : Ev (fun k => F56 k b (digs n)) ((digs (B * n), ()), ((), (), ())) := by
  have := mul_ev hb (digs_InR n) (by omega) (Nat.le_trans (digs_len_le (m := 1) (by omega)) (by omega))
  rw [hB, VI_digs, show ((B : Int) * (n : Int)).toNat = B * n by rw [← Int.natCast_mul]; rfl] at this
  exact this
theorem l1MulN (hb : InR b) (lb : b.length ≤ 1000) (hB : VI b = (B : Int)) {c : List Int} {n : Nat} (hc : InR c) (lc : c.length ≤ 1) (hn : VI c = (n : Int)) : Ev (fun k => F85 k b c) ((digs (B * n), ()), ((), (), ())) := by
  have := l1MulAbs_ev hb hc (by omega) (by omega)
  rw [hB, hn, show ((B : Int) * (n : Int)).toNat = B * n by rw [← Int.natCast_mul]; rfl] at this
  exact this
theorem BN_len (hb : InR b) (lb : b.length ≤ 1000) (hB : VI b = (B : Int)) {n : Nat} (hn : n ≤ 10000) : (digs (B * n)).length ≤ 1001 := by
  have h1 := VI_lt hb
  rw [hB] at h1
  have h2 : B < 10000 ^ b.length := by
    have : ((B : Nat) : Int) < ((10000 ^ b.length : Nat) : Int) := by rw [Int.natCast_pow]; exact h1
    omega
  have h3 : B * n < 10000 ^ (b.length + 1) := by
    rw [Nat.pow_succ]
    exact Nat.lt_of_le_of_lt (Nat.mul_le_mul_left B hn) (Nat.mul_lt_mul_of_pos_right h2 (by omega))
  have := digs_len_le h3
  omega
theorem cmpN (hb : InR b) (lb : b.length ≤ 1000) (hB : VI b = (B : Int)) (lX : (digs X).length ≤ 2000) {n : Nat} (hn : n ≤ 10000) : Ev (fun k => F68 k (digs (B * n)) (digs X)) ((cmpI (B * n) X, ()), ((), (), ())) :=
  cmp_ev (digs_InR _) (digs_InR _) (digs_Trim _) (digs_Trim _) (VI_digs _) (VI_digs _) (by have := BN_len hb lb hB hn; omega) (by omega)
theorem l1CmpN (hb : InR b) (lb : b.length ≤ 1000) (hB : VI b = (B : Int)) {n : Nat} (hn : n ≤ 10000) : Ev (fun k => F93 k (digs (B * n)) (digs X)) ((cmpI (B * n) X, ()), ((), (), ())) :=
  l1CmpAbs_ev (digs_InR _) (digs_InR _) (digs_Trim _) (digs_Trim _) (VI_digs _) (VI_digs _) (by have := BN_len hb lb hB hn; omega)
theorem subN (hb : InR b) (lb : b.length ≤ 1000) (hB : VI b = (B : Int)) (lX : (digs X).length ≤ 2000) {n : Nat} (h : B * n ≤ X) : Ev (fun k => F77 k (digs X) (digs (B * n))) ((digs (X - B * n), ()), ((), (), ())) := by
  have := sub_ev (digs_InR X) (digs_InR (B * n)) (digs_Trim _) (by omega) (by rw [VI_digs, VI_digs]; omega)
  rw [VI_digs, VI_digs, show ((X : Int) - ((B * n : Nat) : Int)).toNat = X - B * n by omega] at this
  exact this
theorem l1SubN (lX : (digs X).length ≤ 2000) {n : Nat} (h : B * n ≤ X) : Ev (fun k => F109 k (digs X) (digs (B * n))) ((digs (X - B * n), ()), ((), (), ())) := by
  have := l1SubAbs_ev (digs_InR X) (digs_InR (B * n)) (digs_Trim _) (by omega) (by rw [VI_digs, VI_digs]; omega)
  rw [VI_digs, VI_digs, show ((X : Int) - ((B * n : Nat) : Int)).toNat = X - B * n by omega] at this
  exact this
theorem quo_of {n : Nat} (h1 : B * n ≤ X) (h2 : X < B * (n + 1)) : n = X / B := by
  have hp : 0 < B := by
    rcases Nat.eq_zero_or_pos B with h | h
    · subst h; omega
    · exact h
  symm
  rw [Nat.div_eq_iff hp]
  constructor
  · rw [Nat.mul_comm]; omega
  · rw [Nat.mul_comm]
    have : B * (n + 1) = B * n + B := Nat.mul_succ B n
    omega
/-- the search for one limb of the quotient -/
theorem fitI (hb : InR b) (lb : b.length ≤ 1000) (hB : VI b = (B : Int)) (lX : (digs X).length ≤ 2000) {out : List Int} {i : Nat} (hi : i < out.length) : ∀ (m lo hi : Nat), hi - lo ≤ m → lo ≤ hi → hi ≤ 9999 → B * lo ≤ X → X < B * (hi + 1) →
    Ev (fun k => F1018066c8 k b out (digs X) (i : Int) (lo : Int) (hi : Int)) ((), ((), (), (b, ()), (out.set i ((X / B : Nat) : Int), ()), (digs (X - B * (X / B)), ()), ())) := by
  have stop : ∀ n : Nat, n ≤ 9999 → B * n ≤ X → X < B * (n + 1) → Ev (fun k => F1018066c8 k b out (digs X) (i : Int) (n : Int) (n : Int)) ((), ((), (), (b, ()), (out.set i ((X / B : Nat) : Int), ()), (digs (X - B * (X / B)), ()), ())) := by
    intro n hn h1 h2
    have hq := quo_of h1 h2
    rw [← hq]
    refine Ev.step 1 (fun k => F1018066c8_eq k _ _ _ _ _ _) ?_
    simp only [lt_false (Nat.le_refl n), Bool.false_eq_true, if_false, ge0, lt_true hi, Bool.and_self, if_true, Int.toNat_natCast, getI_of hi, Option.bind_some, u64_small (show 0 ≤ (n : Int) by omega) (show (n : Int) ≤ 9999 by omega)]
    exact Ev.bind (limbsOf_ev hn) (Ev.bind (mulN hb lb hB hn) (Ev.bind (subN hb lb hB lX h1) (Ev.now _)))
  intro m
  induction m with
  | zero =>
    intro lo hi' hm hl hh h1 h2
    obtain rfl : lo = hi' := by omega
    exact stop lo hh h1 h2
  | succ m ih =>
    intro lo hi' hm hl hh h1 h2
    by_cases he : lo = hi'
    · subst he
      exact stop lo hh h1 h2
    · obtain ⟨c, hc⟩ : ∃ c, c = (lo + hi' + 1) / 2 := ⟨_, rfl⟩
      have hc1 : lo < c := by omega
      have hc2 : c ≤ hi' := by omega
      refine Ev.step 1 (fun k => F1018066c8_eq k _ _ _ _ _ _) ?_
      simp only [lt_true (show lo < hi' by omega), if_true, mid_eq (show hi' ≤ 10000 by omega) (show lo ≤ 10000 by omega), ← hc, u64_small (show 0 ≤ (c : Int) by omega) (show (c : Int) ≤ 9999 by omega)]
      refine Ev.bind (limbsOf_ev (by omega)) (Ev.bind (mulN hb lb hB (by omega)) (Ev.bind (cmpN hb lb hB lX (by omega)) ?_))
      simp only [cmpI_le]
      by_cases hle : B * c ≤ X
      · simp only [hle, decide_true, if_true]
        exact ih c hi' (by omega) hc2 hh hle h2
      · simp only [hle, decide_false, Bool.false_eq_true, if_false]
        have e1 : IntKind.i64.wrap ((c : Int) - 1) = ((c - 1 : Nat) : Int) := by
          rw [wrap64 (by omega) (by omega)]
          omega
        rw [e1]
        exact ih lo (c - 1) (by omega) (by omega) (by omega) h1 (by rw [show c - 1 + 1 = c by omega]; omega)
theorem fitS (hb : InR b) (lb : b.length ≤ 1000) (hB : VI b = (B : Int)) : ∀ (m lo hi : Nat), hi - lo ≤ m + 1 → lo < hi → hi ≤ 10000 → B * lo ≤ X → X < B * hi →
    Ev (fun k => F108c3 k (digs X) b (lo : Int) (hi : Int)) ((((X / B : Nat) : Int), ()), ((), (), ())) := by
  have stop : ∀ n : Nat, n ≤ 9999 → B * n ≤ X → X < B * (n + 1) → Ev (fun k => F108c3 k (digs X) b (n : Int) ((n + 1 : Nat) : Int)) ((((X / B : Nat) : Int), ()), ((), (), ())) := by
    intro n hn h1 h2
    rw [← quo_of h1 h2]
    refine Ev.step 1 (fun k => F108c3_eq k _ _ _ _) ?_
    have c1 : decide (IntKind.i64.wrap (((n + 1 : Nat) : Int) - (n : Int)) > 1) = false := by
      rw [wrap64 (by omega) (by omega)]
      exact decide_eq_false (by omega)
    simp only [c1, Bool.false_eq_true, if_false]
    exact Ev.now _
  intro m
  induction m with
  | zero =>
    intro lo hi' hm hl hh h1 h2
    obtain rfl : hi' = lo + 1 := by omega
    exact stop lo (by omega) h1 h2
  | succ m ih =>
    intro lo hi' hm hl hh h1 h2
    by_cases he : hi' = lo + 1
    · subst he
      exact stop lo (by omega) h1 h2
    · obtain ⟨c, hc⟩ : ∃ c, c = (lo + hi') / 2 := ⟨_, rfl⟩
      have hc1 : lo < c := by omega
      have hc2 : c < hi' := by omega
      refine Ev.step 1 (fun k => F108c3_eq k _ _ _ _) ?_
      have c1 : decide (IntKind.i64.wrap ((hi' : Int) - (lo : Int)) > 1) = true := by
        rw [wrap64 (by omega) (by omega)]
        exact decide_eq_true (by omega)
      simp only [c1, if_true, mid_eq0 (show hi' ≤ 10000 by omega) (show lo ≤ 10000 by omega), ← hc]
      refine Ev.bind (l1MulN hb lb hB (InR.one (by omega)) (by simp) (VI_one (c : Int))) (Ev.bind (l1CmpN hb lb hB (by omega)) ?_)
      simp only [cmpI_le]
      by_cases hle : B * c ≤ X
      · simp only [hle, decide_true, if_true]
        exact ih c hi' (by omega) hc2 hh hle h2
      · simp only [hle, decide_false, Bool.false_eq_true, if_false]
        exact ih lo c (by omega) hc1 (by omega) h1 (by omega)
end
end Go.Proofs.YtennmjbdmglebaaGreatDoor.R
end

section
/-! Rf: division of limbs: the loops over the limbs. -/
set_option autoImplicit false
set_option linter.unusedSimpArgs false
set_option linter.unusedVariables false
namespace Go.Proofs.YtennmjbdmglebaaGreatDoor.R
open Go.Rf
theorem VI_cons (d : Int) (l : List Int) : VI (d :: l) = d + 10000 * VI l := rfl
theorem VI_drop {a : List Int} {i : Nat} (h : i < a.length) : VI (a.drop i) = a.getD i 0 + 10000 * VI (a.drop (i + 1)) := by
  rw [List.drop_eq_getElem_cons h, VI_cons]
  congr 1
  rw [List.getD_eq_getElem?_getD, List.getElem?_eq_getElem h]
  rfl
theorem inrSet {l : List Int} (h : InR l) {i : Nat} {x : Int} (hx : 0 ≤ x ∧ x ≤ 9999) : InR (l.set i x) := fun d hd => by
  rcases List.mem_or_eq_of_mem_set hd with hd | hd
  · exact h d hd
  · rw [hd]; exact hx
theorem limbq {q : Nat} (h : q ≤ 9999) : 0 ≤ (q : Int) ∧ (q : Int) ≤ 9999 := ⟨by omega, by omega⟩
theorem ar1 {Q q : Nat} {V P : Int} (h : V = (Q : Int) * (P * 10000)) : V + ((q : Int) - 0) * P = ((10000 * Q + q : Nat) : Int) * P := by
  rw [h, show ((10000 * Q + q : Nat) : Int) = 10000 * (Q : Int) + q by omega]
  grind
theorem ar2 {C R : Nat} {x V P : Int} (hx : 0 ≤ x) : V + ((10000 * C + (x.toNat + 10000 * R) : Nat) : Int) * P = V + x * P + ((C + R : Nat) : Int) * (P * 10000) := by
  rw [show ((10000 * C + (x.toNat + 10000 * R) : Nat) : Int) = 10000 * (C : Int) + x + 10000 * (R : Int) by omega, show ((C + R : Nat) : Int) = (C : Int) + R by omega]
  grind
theorem ar3 {C R : Nat} {x : Int} (hx : 0 ≤ x) : ((10000 * C + (x.toNat + 10000 * R) : Nat) : Int) = x + 10000 * ((C + R : Nat) : Int) := by
  omega
section
variable {a b : List Int} {B : Nat}
/-- one limb more of the dividend -/
theorem round_len {R : Nat} {x : Int} (hR : (digs R).length ≤ 1001) (hx : 0 ≤ x ∧ x ≤ 9999) : (digs (x.toNat + 10000 * R)).length ≤ 1002 := by
  by_cases h : x.toNat + 10000 * R = 0
  · rw [h, digs_zero]; simp
  · rw [digs_pos h, List.length_cons, show (x.toNat + 10000 * R) / 10000 = R by omega]
    omega
theorem R_len (hb : InR b) (lb : b.length ≤ 1000) (hB : VI b = (B : Int)) {R : Nat} (h : R < B) : (digs R).length ≤ 1001 := by
  have h1 := VI_lt hb
  rw [hB] at h1
  have h2 : B < 10000 ^ b.length := by
    have : ((B : Nat) : Int) < ((10000 ^ b.length : Nat) : Int) := by rw [Int.natCast_pow]; exact h1
    omega
  have := digs_len_le (show R < 10000 ^ b.length by omega)
  omega
theorem consV {R : Nat} {x : Int} (hx : 0 ≤ x ∧ x ≤ 9999) : VI ([x] ++ digs R) = ((x.toNat + 10000 * R : Nat) : Int) := by
  rw [show [x] ++ digs R = x :: digs R from rfl, VI_cons, VI_digs]
  omega
theorem consR {R : Nat} {x : Int} (hx : 0 ≤ x ∧ x ≤ 9999) : InR ([x] ++ digs R) := InR.mk hx (digs_InR R)
theorem quo_small {R : Nat} {x : Int} (hx : 0 ≤ x ∧ x ≤ 9999) (hR : R < B) : (x.toNat + 10000 * R) / B ≤ 9999 := by
  have : (x.toNat + 10000 * R) / B < 10000 := by
    rw [Nat.div_lt_iff_lt_mul (by omega)]
    have : 10000 * (R + 1) ≤ 10000 * B := Nat.mul_le_mul_left 10000 hR
    omega
  omega
theorem rest_lt {X : Nat} (h : 0 < B) : X - B * (X / B) < B := by
  have := Nat.mod_lt X h
  have h2 := Nat.div_add_mod X B
  omega
theorem rest_eq (X : Nat) : X / B * B + (X - B * (X / B)) = X := by
  have h2 := Nat.div_add_mod X B
  have h3 : B * (X / B) = X / B * B := Nat.mul_comm _ _
  omega
theorem round_ev (hb : InR b) (lb : b.length ≤ 1000) (hB : VI b = (B : Int)) (hp : 0 < B) {out : List Int} {i R : Nat} {x : Int} (hi : i < out.length) (hx : 0 ≤ x ∧ x ≤ 9999) (hR : R < B) :
    Ev (fun k => F1018066 k (i : Int) x b out (digs R)) ((), ((), (), (b, ()), (out.set i (((x.toNat + 10000 * R) / B : Nat) : Int), ()), (digs (x.toNat + 10000 * R - B * ((x.toNat + 10000 * R) / B)), ()), ())) := by
  have hl := R_len hb lb hB hR
  have c1 : decide ([x].length + (digs R).length ≤ 17592186044416) = true := decide_eq_true (by simp; omega)
  refine Ev.step 1 (fun k => F1018066_eq k _ _ _ _ _) ?_
  simp only [c1, if_true]
  have ht := trim_ev (consR (R := R) hx) (by simp; omega)
  rw [consV hx] at ht
  refine Ev.bind ht ?_
  have := fitI (X := x.toNat + 10000 * R) hb lb hB (by have := round_len hl hx; omega) hi 9999 0 9999 (by omega) (by omega) (by omega) (by omega) (by
    have : 10000 * (R + 1) ≤ 10000 * B := Nat.mul_le_mul_left 10000 hR
    omega)
  exact this
/-- the rounds of the program's division -/
theorem divI (hb : InR b) (lb : b.length ≤ 1000) (hB : VI b = (B : Int)) (hp : 0 < B) {n : Nat} : ∀ (l : List Int) (Q R : Nat) (out : List Int), InR l → l.length ≤ n → out.length = n → InR out → (∀ j, j < l.length → out.getD j 0 = 0) → VI out = (Q : Int) * 10000 ^ l.length → R < B →
    ∃ (Q' R' : Nat) (out' : List Int), Ev (fun k => backK (.int .i64) [.box [.v (.sl (.int .i64))], .box [.o (.int .i64) 3 true], .box [.v (.sl (.int .i64))]] (fun i x d1 => (F1018066 k i x d1.1.1 d1.2.1.1 d1.2.2.1.1).bind fun o3 => some o3.2.2.2) l ((b, ()), (out, ()), (digs R, ()), ())) ((b, ()), (out', ()), (digs R', ()), ()) ∧
      InR out' ∧ out'.length = n ∧ VI out' = (Q' : Int) ∧ R' < B ∧ ((Q' * B + R' : Nat) : Int) = VI l.reverse + ((Q * B + R : Nat) : Int) * 10000 ^ l.length
  | [], Q, R, out, _, _, hlen, hr, _, hV, hR => ⟨Q, R, out, Ev.now _, hr, hlen, by simpa using hV, hR, by simp [VI]⟩
  | x :: l, Q, R, out, hl, hn, hlen, hr, hz, hV, hR => by
    obtain ⟨hx, hl⟩ := hl.cons
    simp only [List.length_cons] at hn hz hV
    obtain ⟨X, hX⟩ : ∃ X, X = x.toNat + 10000 * R := ⟨_, rfl⟩
    have hq := quo_small (B := B) hx hR
    have h1 := round_ev hb lb hB hp (out := out) (i := l.length) (by omega) hx hR
    rw [← hX] at h1 hq
    obtain ⟨Q', R', out', h2, h3, h4, h5, h6, h7⟩ := divI (n := n) hb lb hB hp l (10000 * Q + X / B) (X - B * (X / B)) (out.set l.length ((X / B : Nat) : Int)) hl (by omega) (by rw [List.length_set]; exact hlen) (inrSet hr (limbq hq)) (fun j hj => by
      rw [getI_set (i := l.length) (by omega), if_neg (by omega)]
      exact hz j (by omega)) (by
      rw [VI_set (by omega), hz l.length (by omega)]
      exact ar1 (by rw [hV, Int.pow_succ])) (rest_lt hp)
    refine ⟨Q', R', out', Ev.bind (Ev.bind h1 (Ev.now _)) h2, h3, h4, h5, h6, ?_⟩
    rw [h7, List.reverse_cons, VI_snoc, List.length_reverse, List.length_cons, Int.pow_succ]
    have e1 : (10000 * Q + X / B) * B + (X - B * (X / B)) = 10000 * (Q * B) + X := by
      have := rest_eq (B := B) X
      rw [Nat.add_mul, Nat.mul_assoc]
      omega
    rw [e1, hX]
    exact ar2 hx.1
theorem uniq_div {A Q R : Nat} (h : Q * B + R = A) (hR : R < B) : Q = A / B ∧ R = A % B := by
  have hp : 0 < B := by omega
  subst h
  constructor
  · rw [Nat.mul_comm, Nat.mul_add_div hp, Nat.div_eq_of_lt hR]; omega
  · rw [Nat.mul_comm, Nat.mul_add_mod, Nat.mod_eq_of_lt hR]
theorem div_ev (ha : InR a) (hb : InR b) (la : a.length ≤ 1000) (lb : b.length ≤ 1000) {A : Nat} (hA : VI a = (A : Int)) (hB : VI b = (B : Int)) (hp : 0 < B) :
    Ev (fun k => F66 k a b) ((digs (A / B), digs (A % B), ()), ((), (), ())) := by
  have c1 : (decide (0 ≤ (a.length : Int)) && decide ((a.length : Int) ≤ (a.length : Int)) && decide ((a.length : Int) ≤ (17592186044416 : Int))) = true := by simp; omega
  have c2 : Nat.ble a.length 1152921504606846976 = true := Nat.ble_eq_true_of_le (by omega)
  refine Ev.step 2 (fun k => F66_eq k _ _) ?_
  simp only [c1, c2, if_true, Int.toNat_natCast]
  obtain ⟨Q, R, out, h1, h2, h3, h4, h5, h6⟩ := divI hb lb hB hp (n := a.length) a.reverse 0 0 (List.replicate a.length 0) (fun d hd => ha d (by simpa using hd)) (by simp) (by simp) (fun d hd => by rw [(List.mem_replicate.1 hd).2]; omega) (fun j _ => by
    rw [List.getD_eq_getElem?_getD, List.getElem?_replicate]
    split <;> rfl) (by rw [VI_zeros]; simp) hp
  rw [digs_zero] at h1
  rw [List.reverse_reverse, hA] at h6
  obtain ⟨q1, q2⟩ := uniq_div (show Q * B + R = A by simp at h6; omega) h5
  refine Ev.bind h1 (Ev.step 1 (fun k => F66c15_eq k _ _) ?_)
  have ht := trim_ev h2 (by omega)
  rw [h4, Int.toNat_natCast] at ht
  subst q1 q2
  exact Ev.bind ht (Ev.now _)
/-- the reference's division -/
theorem l1DivAbs_ev (ha : InR a) (hb : InR b) (la : a.length ≤ 1000) (lb : b.length ≤ 1000) {A : Nat} (hA : VI a = (A : Int)) (hB : VI b = (B : Int)) (hp : 0 < B) :
    Ev (fun k => F91 k a b) ((digs (A / B), digs (A % B), ()), ((), (), ())) := by
  have c1 : (decide (0 ≤ (a.length : Int)) && decide ((a.length : Int) ≤ (a.length : Int)) && decide ((a.length : Int) ≤ (17592186044416 : Int))) = true := by simp; omega
  refine Ev.step 2 (fun k => F91_eq k _ _) ?_
  simp only [c1, if_true, Int.toNat_natCast]
  have key : ∀ (m Q R : Nat) (out : List Int), m ≤ a.length → out.length = a.length → InR out → (∀ j, j < m → out.getD j 0 = 0) → VI out = (Q : Int) * 10000 ^ m → R < B → ((Q * B + R : Nat) : Int) = VI (a.drop m) →
      Ev (fun k => F91c4 k a b out (digs R) ((m : Int) - 1)) ((digs (A / B), digs (A % B), ()), ((), (), ())) := by
    intro m
    induction m with
    | zero =>
      intro Q R out _ hlen hr _ hV hR hT
      rw [List.drop_zero, hA] at hT
      obtain ⟨q1, q2⟩ := uniq_div (show Q * B + R = A by omega) hR
      have c : decide (((0 : Nat) : Int) - 1 ≥ 0) = false := by decide
      refine Ev.step 1 (fun k => F91c4_eq k _ _ _ _ _) ?_
      simp only [c, Bool.false_eq_true, if_false]
      have ht := l1Trim_ev hr (by omega)
      have e9 : ((Q : Int) * 10000 ^ 0).toNat = Q := by rw [Int.pow_zero, Int.mul_one, Int.toNat_natCast]
      rw [hV, e9] at ht
      subst q1 q2
      exact Ev.bind ht (Ev.now _)
    | succ m ih =>
      intro Q R out hm hlen hr hz hV hR hT
      have e0 : (((m + 1 : Nat) : Int) - 1) = (m : Int) := by omega
      rw [e0]
      obtain ⟨x, hxd⟩ : ∃ x, x = a.getD m 0 := ⟨_, rfl⟩
      have hx := ha.at (show m < a.length by omega)
      rw [← hxd] at hx
      obtain ⟨X, hX⟩ : ∃ X, X = x.toNat + 10000 * R := ⟨_, rfl⟩
      have hl := R_len hb lb hB hR
      have hq := quo_small (B := B) hx hR
      rw [← hX] at hq
      have lX : (digs X).length ≤ 2000 := by have := round_len hl hx; rw [← hX] at this; omega
      have c2 : decide ([x].length + (digs R).length ≤ 17592186044416) = true := decide_eq_true (by simp; omega)
      have c3 : decide ((m : Int) ≥ 0) = true := decide_eq_true (by omega)
      have ht := l1Trim_ev (consR (R := R) hx) (by simp; omega)
      rw [consV hx, ← hX, Int.toNat_natCast] at ht
      have hf : Ev (fun k => F108 k (digs X) b) ((((X / B : Nat) : Int), ()), ((), (), ())) := Ev.step 2 (fun k => F108_eq k _ _) (by
        have := fitS (X := X) hb lb hB 9999 0 10000 (by omega) (by omega) (by omega) (by omega) (by
          have : 10000 * (R + 1) ≤ 10000 * B := Nat.mul_le_mul_left 10000 hR
          omega)
        exact this)
      have hn := l1Trim_ev (InR.one (d := ((X / B : Nat) : Int)) (limbq hq)) (by simp)
      rw [VI_one, Int.toNat_natCast] at hn
      have hmn := l1MulN hb lb hB (digs_InR (X / B)) (digs_len_le (m := 1) (by omega)) (VI_digs (X / B))
      have hsb := l1SubN (B := B) (n := X / B) lX (Nat.mul_div_le X B)
      refine Ev.step 1 (fun k => F91c4_eq k _ _ _ _ _) ?_
      simp only [c3, ge0, if_true, Int.toNat_natCast, getI_of (show m < a.length by omega), Option.bind_some, ← hxd, c2]
      refine Ev.bind ht (Ev.bind hf ?_)
      simp only [lt_true (show m < out.length by omega), Bool.and_self, if_true, getI_of (show m < out.length by omega), Option.bind_some]
      refine Ev.bind hn (Ev.bind hmn (Ev.bind hsb ?_))
      have e1 : IntKind.i64.wrap ((m : Int) - 1) = (m : Int) - 1 := wrap64 (by omega) (by omega)
      rw [e1]
      refine ih (10000 * Q + X / B) (X - B * (X / B)) (out.set m ((X / B : Nat) : Int)) (by omega) (by rw [List.length_set]; exact hlen) (inrSet hr (limbq hq)) (fun j hj => by
        rw [getI_set (by omega), if_neg (by omega)]
        exact hz j (by omega)) (by
        rw [VI_set (by omega), hz m (by omega)]
        exact ar1 (by rw [hV, Int.pow_succ])) (rest_lt hp) ?_
      rw [VI_drop (by omega), ← hT, ← hxd]
      have e2 : (10000 * Q + X / B) * B + (X - B * (X / B)) = 10000 * (Q * B) + X := by
        have := rest_eq (B := B) X
        rw [Nat.add_mul, Nat.mul_assoc]
        omega
      rw [e2, hX]
      exact ar3 hx.1
  have e0 : IntKind.i64.wrap ((a.length : Int) - 1) = (a.length : Int) - 1 := wrap64 (by omega) (by omega)
  rw [e0]
  have := key a.length 0 0 (List.replicate a.length 0) (by omega) (by simp) (fun d hd => by rw [(List.mem_replicate.1 hd).2]; omega) (fun j _ => by
    rw [List.getD_eq_getElem?_getD, List.getElem?_replicate]
    split <;> rfl) (by rw [VI_zeros]; simp) hp (by rw [List.drop_length]; simp [VI])
  rw [digs_zero] at this
  exact this
end
end Go.Proofs.YtennmjbdmglebaaGreatDoor.R
end

section
/-! Rf: quotients that are rounded; the least scale. -/
set_option autoImplicit false
set_option linter.unusedSimpArgs false
set_option linter.unusedVariables false
namespace Go.Proofs.YtennmjbdmglebaaGreatDoor.R
open Go.Rf
theorem len_gt (n : Nat) : decide (((digs n).length : Int) > 0) = decide (n ≠ 0) := by
  by_cases h : n = 0
  · subst h
    rw [digs_zero]; rfl
  · rw [digs_pos h]
    rw [decide_eq_true h, decide_eq_true (by simp)]
theorem len_is0 (n : Nat) : (((digs n).length : Int) == 0) = decide (n = 0) := by
  by_cases h : n = 0
  · subst h
    rw [digs_zero]; rfl
  · rw [digs_pos h, decide_eq_false h, beq_eq_false_iff_ne]
    simp; omega
theorem addN_ev {q : Nat} {c : List Int} {n : Nat} (hc : InR c) (lc : c.length ≤ 1000) (hn : VI c = (n : Int)) (lq : (digs q).length ≤ 1000) : Ev (fun k => F67 k (digs q) c) ((digs (q + n), ()), ((), (), ())) := by
  have := add_ev (digs_InR q) hc (by omega) (by omega)
  rw [VI_digs, hn, show ((q : Int) + (n : Int)).toNat = q + n by omega] at this
  exact this
theorem l1AddN_ev {q : Nat} {c : List Int} {n : Nat} (hc : InR c) (lc : c.length ≤ 1000) (hn : VI c = (n : Int)) (lq : (digs q).length ≤ 1000) : Ev (fun k => F94 k (digs q) c) ((digs (q + n), ()), ((), (), ())) := by
  have := l1AddAbs_ev (digs_InR q) hc (by omega) (by omega)
  rw [VI_digs, hn, show ((q : Int) + (n : Int)).toNat = q + n by omega] at this
  exact this
/-- whether what is left is rounded away from nought -/
def rmore (mode : Int) (neg odd : Bool) (half : Int) : Bool := if mode = 1 then true else if mode = 2 then false else if mode = 3 then !neg else if mode = 4 then neg else if mode = 5 then decide (half ≥ 0) else if mode = 6 then decide (half > 0) else (decide (half > 0) || (half == 0 && odd))
/-- a quotient that is rounded -/
def rquo (neg : Bool) (V D : Nat) (mode : Int) : Nat := if V % D = 0 then V / D else if rmore mode neg (decide (V / D % 2 = 1)) (cmpI (V % D + V % D) D) = true then V / D + 1 else V / D
theorem away_both (neg odd : Bool) (half mode : Int) (h0 : 1 ≤ mode) (h1 : mode ≤ 7) : ∃ v : Bool, v = rmore mode neg odd half ∧ Ev (fun k => F69 k neg odd half mode) ((v, ()), ((), (), (), (), ())) ∧ Ev (fun k => F92 k mode neg odd half) ((v, ()), ((), (), (), (), ())) := by
  have a : ∀ {r}, Ev (fun _ => if (mode == (1 : Int)) = true then some ((true, ()), ((), (), (), (), ())) else if (mode == (3 : Int)) = true then some (((!neg), ()), ((), (), (), (), ())) else if (mode == (4 : Int)) = true then some ((neg, ()), ((), (), (), (), ())) else if (mode == (5 : Int)) = true then some ((decide (half ≥ (0 : Int)), ()), ((), (), (), (), ())) else if (mode == (6 : Int)) = true then some ((decide (half > (0 : Int)), ()), ((), (), (), (), ())) else if (mode == (7 : Int)) = true then if (decide (half > (0 : Int))) = true then some ((true, ()), ((), (), (), (), ())) else if (half == (0 : Int)) = true then some ((odd, ()), ((), (), (), (), ())) else some ((false, ()), ((), (), (), (), ())) else some ((false, ()), ((), (), (), (), ()))) r → Ev (fun k => F69 k neg odd half mode) r := fun h => Ev.step 2 (fun k => F69_eq k _ _ _ _) h
  have b : ∀ {r}, Ev (fun _ => if (mode == (1 : Int)) = true then some ((true, ()), ((), (), (), (), ())) else if (mode == (2 : Int)) = true then some ((false, ()), ((), (), (), (), ())) else if (mode == (3 : Int)) = true then some (((!neg), ()), ((), (), (), (), ())) else if (mode == (4 : Int)) = true then some ((neg, ()), ((), (), (), (), ())) else if (mode == (5 : Int)) = true then some ((decide (half ≥ (0 : Int)), ()), ((), (), (), (), ())) else if (mode == (6 : Int)) = true then some ((decide (half > (0 : Int)), ()), ((), (), (), (), ())) else if (decide (half > (0 : Int))) = true then some ((true, ()), ((), (), (), (), ())) else if (half == (0 : Int)) = true then some ((odd, ()), ((), (), (), (), ())) else some ((false, ()), ((), (), (), (), ()))) r → Ev (fun k => F92 k mode neg odd half) r := fun h => Ev.step 2 (fun k => F92_eq k _ _ _ _) h
  have hm : mode = 1 ∨ mode = 2 ∨ mode = 3 ∨ mode = 4 ∨ mode = 5 ∨ mode = 6 ∨ mode = 7 := by omega
  rcases hm with rfl | rfl | rfl | rfl | rfl | rfl | rfl
  · exact ⟨true, by simp [rmore], a (by simp only [show ((1 : Int) == 1) = true from rfl, if_true]; exact Ev.now _), b (by simp only [show ((1 : Int) == 1) = true from rfl, if_true]; exact Ev.now _)⟩
  · exact ⟨false, by simp [rmore], a (by simp [show ((2 : Int) == 1) = false from rfl]; exact Ev.now _), b (by simp [show ((2 : Int) == 1) = false from rfl]; exact Ev.now _)⟩
  · exact ⟨!neg, by simp [rmore], a (by simp; exact Ev.now _), b (by simp; exact Ev.now _)⟩
  · exact ⟨neg, by simp [rmore], a (by simp; exact Ev.now _), b (by simp; exact Ev.now _)⟩
  · exact ⟨decide (half ≥ 0), by simp [rmore], a (by simp; exact Ev.now _), b (by simp; exact Ev.now _)⟩
  · exact ⟨decide (half > 0), by simp [rmore], a (by simp; exact Ev.now _), b (by simp; exact Ev.now _)⟩
  · cases h : decide (half > 0) with
    | true => exact ⟨true, by simp [rmore, h], a (by simp [h]; exact Ev.now _), b (by simp [h]; exact Ev.now _)⟩
    | false =>
      cases h2 : (half == 0) with
      | true => exact ⟨odd, by simp [rmore, h, h2], a (by simp [h, h2]; exact Ev.now _), b (by simp [h, h2]; exact Ev.now _)⟩
      | false => exact ⟨false, by simp [rmore, h, h2], a (by simp [h, h2]; exact Ev.now _), b (by simp [h, h2]; exact Ev.now _)⟩
theorem quotient_both (neg : Bool) {V D : Nat} (mode : Int) (h0 : 1 ≤ mode) (h1 : mode ≤ 7) (hp : 0 < D) (lV : (digs V).length ≤ 900) (lD : (digs D).length ≤ 900) : ∃ q : Nat, q = rquo neg V D mode ∧ q ≤ V / D + 1 ∧
    Ev (fun k => F37 k neg (digs V) (digs D) mode) (((neg, digs q, ()), ()), (((), (), ()), (), (), ())) ∧ Ev (fun k => F74 k neg (digs V) (digs D) mode) ((digs q, ()), ((), (), (), (), ())) := by
  have hd := div_ev (digs_InR V) (digs_InR D) (by omega) (by omega) (VI_digs V) (VI_digs D) hp
  have hs := l1DivAbs_ev (digs_InR V) (digs_InR D) (by omega) (by omega) (VI_digs V) (VI_digs D) hp
  have last : ∀ (x3 : List Int) (x7 : List Int), Ev (fun k => F37c7 k neg x3 false ([] : List Int) x7) (((neg, x7, ()), ()), (((), (), ()), (), (), ())) := fun x3 x7 => Ev.step 1 (fun k => F37c7_eq k _ _ _ _ _) (Ev.now _)
  by_cases hr : V % D = 0
  · refine ⟨V / D, by simp [rquo, hr], by omega, Ev.step 2 (fun k => F37_eq k _ _ _ _) (Ev.bind hd ?_), Ev.step 2 (fun k => F74_eq k _ _ _ _) (Ev.bind hs ?_)⟩
    · simp only [len_gt, hr, ne_eq, not_true_eq_false, decide_false, Bool.false_eq_true, if_false]
      exact last _ _
    · simp only [len_is0, hr, decide_true, if_true]
      exact Ev.now _
  · have lQ : (digs (V / D)).length ≤ 900 := by
      by_cases hV : V = 0
      · subst hV; simp [digs_zero]
      · have h1 := VI_lt (digs_InR V)
        rw [VI_digs] at h1
        have h2 : V < 10000 ^ (digs V).length := by
          have : ((V : Nat) : Int) < ((10000 ^ (digs V).length : Nat) : Int) := by rw [Int.natCast_pow]; exact h1
          omega
        have := digs_len_le (Nat.lt_of_le_of_lt (Nat.div_le_self V D) h2)
        omega
    have lR : (digs (V % D)).length ≤ 901 := by
      have h1 := VI_lt (digs_InR D)
      rw [VI_digs] at h1
      have h2 : D < 10000 ^ (digs D).length := by
        have : ((D : Nat) : Int) < ((10000 ^ (digs D).length : Nat) : Int) := by rw [Int.natCast_pow]; exact h1
        omega
      have := digs_len_le (Nat.lt_trans (Nat.mod_lt V hp) h2)
      omega
    have l2R : (digs (V % D + V % D)).length ≤ 902 := by
      have h1 := VI_lt (digs_InR (V % D))
      rw [VI_digs] at h1
      have h2 : V % D < 10000 ^ (digs (V % D)).length := by
        have : ((V % D : Nat) : Int) < ((10000 ^ (digs (V % D)).length : Nat) : Int) := by rw [Int.natCast_pow]; exact h1
        omega
      have h3 : V % D + V % D < 10000 ^ ((digs (V % D)).length + 1) := by rw [Nat.pow_succ]; omega
      have := digs_len_le h3
      omega
    have a1 := addN_ev (q := V % D) (digs_InR (V % D)) (by omega) (VI_digs _) (by omega)
    have s1 := l1AddN_ev (q := V % D) (digs_InR (V % D)) (by omega) (VI_digs _) (by omega)
    have a2 : Ev (fun k => F68 k (digs (V % D + V % D)) (digs D)) ((cmpI (V % D + V % D) D, ()), ((), (), ())) := cmp_ev (digs_InR _) (digs_InR _) (digs_Trim _) (digs_Trim _) (VI_digs _) (VI_digs _) (by omega) (by omega)
    have s2 : Ev (fun k => F93 k (digs (V % D + V % D)) (digs D)) ((cmpI (V % D + V % D) D, ()), ((), (), ())) := l1CmpAbs_ev (digs_InR _) (digs_InR _) (digs_Trim _) (digs_Trim _) (VI_digs _) (VI_digs _) (by omega)
    have a3 := addN_ev (q := V / D) (c := [1]) (n := 1) (InR.one (by omega)) (by simp) (VI_one 1) (by omega)
    have s3 := l1AddN_ev (q := V / D) (c := [1]) (n := 1) (InR.one (by omega)) (by simp) (VI_one 1) (by omega)
    have c0 : decide (V % D ≠ 0) = true := decide_eq_true hr
    have c1 : decide (V % D = 0) = false := decide_eq_false hr
    by_cases hq : V / D = 0
    · obtain ⟨v, ev, w1, w2⟩ := away_both neg false (cmpI (V % D + V % D) D) mode h0 h1
      have c2 : decide (V / D ≠ 0) = false := decide_eq_false (by omega)
      refine ⟨if v then V / D + 1 else V / D, by simp [rquo, hr, hq, ev], by split <;> omega, Ev.step 2 (fun k => F37_eq k _ _ _ _) (Ev.bind hd ?_), Ev.step 2 (fun k => F74_eq k _ _ _ _) (Ev.bind hs ?_)⟩
      · simp only [len_gt, c0, if_true]
        refine Ev.bind a1 (Ev.bind a2 ?_)
        simp only [len_gt, c2, Bool.false_eq_true, if_false]
        refine Ev.bind w1 ?_
        cases v with
        | true => simp only [if_true]; exact Ev.bind a3 (last _ _)
        | false => simp only [Bool.false_eq_true, if_false]; exact last _ _
      · simp only [len_is0, len_gt, c1, c2, Bool.false_eq_true, if_false]
        refine Ev.bind s1 (Ev.bind s2 (Ev.bind w2 ?_))
        cases v with
        | true => simp only [if_true]; exact Ev.bind s3 (Ev.now _)
        | false => simp only [Bool.false_eq_true, if_false]; exact Ev.now _
    · have c2 : decide (V / D ≠ 0) = true := decide_eq_true hq
      obtain ⟨y, hy⟩ : ∃ y, (digs (V / D))[0]? = some y := by rw [digs_pos hq]; exact ⟨_, rfl⟩
      obtain ⟨v, ev, w1, w2⟩ := away_both neg ((y.tmod 2) == 1) (cmpI (V % D + V % D) D) mode h0 h1
      have hodd : ((y.tmod 2) == 1) = decide (V / D % 2 = 1) := by
        rw [digs_pos hq] at hy
        obtain rfl := Option.some.inj hy
        rw [Int.tmod_eq_emod_of_nonneg (by omega)]
        by_cases ho : V / D % 2 = 1
        · rw [decide_eq_true ho, beq_iff_eq]; omega
        · rw [decide_eq_false ho, beq_eq_false_iff_ne]; omega
      refine ⟨if v then V / D + 1 else V / D, by rw [ev, hodd, rquo, if_neg hr], by split <;> omega, Ev.step 2 (fun k => F37_eq k _ _ _ _) (Ev.bind hd ?_), Ev.step 2 (fun k => F74_eq k _ _ _ _) (Ev.bind hs ?_)⟩
      · simp only [len_gt, c0, if_true]
        refine Ev.bind a1 (Ev.bind a2 ?_)
        simp only [len_gt, c2, if_true, hy, Option.bind_some]
        refine Ev.bind w1 ?_
        cases v with
        | true => simp only [if_true]; exact Ev.bind a3 (last _ _)
        | false => simp only [Bool.false_eq_true, if_false]; exact last _ _
      · simp only [len_is0, len_gt, c1, c2, Bool.false_eq_true, if_false, if_true, hy, Option.bind_some]
        refine Ev.bind s1 (Ev.bind s2 (Ev.bind w2 ?_))
        cases v with
        | true => simp only [if_true]; exact Ev.bind s3 (Ev.now _)
        | false => simp only [Bool.false_eq_true, if_false]; exact Ev.now _
/-! ### the least scale -/
def trimN : Nat → Nat → Nat × Nat
  | V, 0 => (V, 0)
  | V, s + 1 => if V % 10 = 0 then trimN (V / 10) s else (V, s + 1)
theorem big_ev {neg : Bool} {n : Nat} (h16 : (digs n).length ≤ 16) : Ev (fun k => F49 k neg (digs n)) (((neg && decide (n ≠ 0), digs n, ()), true, ()), ((), (), ())) := by
  obtain ⟨hr, ht, hv⟩ := digs_spec n
  have htr := trim_ev hr (show (digs n).length ≤ 1000000 by omega)
  have e : digs (VI (digs n)).toNat = digs n := by rw [hv]; rfl
  rw [e] at htr
  have c16 : decide (((digs n).length : Int) > 16) = false := decide_eq_false (by omega)
  refine Ev.step 2 (fun k => F49_eq k _ _) (Ev.bind htr ?_)
  simp only [c16, Bool.false_eq_true, if_false, len_gt]
  cases neg with
  | true =>
    simp only [if_true, Bool.true_and]
    exact Ev.bind (clone_int_ev _ (by omega)) (Ev.now _)
  | false =>
    simp only [Bool.false_eq_true, if_false, Bool.false_and]
    exact Ev.bind (clone_int_ev _ (by omega)) (Ev.now _)
theorem div10_len {V : Nat} {m : Nat} (h : (digs V).length ≤ m) : (digs (V / 10)).length ≤ m := by
  have h1 := VI_lt (digs_InR V)
  rw [VI_digs] at h1
  have h2 : V < 10000 ^ (digs V).length := by
    have : ((V : Nat) : Int) < ((10000 ^ (digs V).length : Nat) : Int) := by rw [Int.natCast_pow]; exact h1
    omega
  have := digs_len_le (Nat.lt_of_le_of_lt (Nat.div_le_self V 10) h2)
  omega
/-- a decimal at its least scale -/
def dTrim (n : Bool) (l : List Int) (s : Int) : Bool × List Int × Int × Unit := if decOk n l s = true then (n, digs (trimN (num l) s.toNat).1, ((trimN (num l) s.toNat).2 : Int), ()) else (false, [], 0, ())
end Go.Proofs.YtennmjbdmglebaaGreatDoor.R
end

section
/-! Rf: rounding to a scale. -/
set_option autoImplicit false
set_option linter.unusedSimpArgs false
set_option linter.unusedVariables false
namespace Go.Proofs.YtennmjbdmglebaaGreatDoor.R
open Go.Rf
theorem made_len1 {neg : Bool} {n : Nat} {s : Int} (h : (digs n).length ≤ 1000) : (made neg n s).1.2.1.length ≤ 1000 := by
  unfold made
  split
  · show ([] : List Int).length ≤ 1000
    simp
  · exact h
theorem pow_len {V m : Nat} (hV : V < 10000 ^ 16) (hm : m ≤ 24) : (digs (V * 10 ^ m)).length ≤ 40 := digs_len_le (at_lt hV hm)
/-- what is not in order -/
def dForm : (Bool × List Int × Int × Unit) × Int × Unit := ((false, [], 0, ()), 1, ())
/-- a decimal rounded to a scale -/
def dRound (n : Bool) (l : List Int) (s sc mode : Int) : (Bool × List Int × Int × Unit) × Int × Unit := if decOk n l s = true ∧ within sc 0 12 = true ∧ within mode 1 7 = true then
  (if s.toNat ≤ sc.toNat then made n (num l * 10 ^ (sc.toNat - s.toNat)) sc else made n (rquo n (num l) (10 ^ (s.toNat - sc.toNat)) mode) sc) else dForm
theorem DecRound_both (n : Bool) (l : List Int) (s sc mode : Int) (h : l.length ≤ 1048576) : ∃ m : (Bool × List Int × Int × Unit) × Int × Unit, m = dRound n l s sc mode ∧ m.1.2.1.length ≤ 1000 ∧ Ev (fun k => F11 k n l s sc mode) (m, (((), (), (), ()), (), (), ())) ∧ Ev (fun k => F12 k n l s sc mode) (m, (((), (), (), ()), (), (), ())) := by
  cases c1 : decOk n l s with
  | false =>
    refine ⟨((false, [], 0, ()), 1, ()), by simp [dRound, dForm, c1], by simp, Ev.step 2 (fun k => F11_eq k _ _ _ _ _) (Ev.bind (DecOk_ev n l s h) ?_), Ev.step 2 (fun k => F12_eq k _ _ _ _ _) (Ev.bind (l2Ok_ev n l s h) ?_)⟩
    · simp only [c1, Bool.not_false, if_true]
      exact Ev.now _
    · simp only [c1, Bool.not_false, if_true]
      exact Ev.now _
  | true =>
    have hmode : Ev (fun k => F42 k mode) ((within mode 1 7, ()), ((), ())) := Ev.step 2 (fun k => F42_eq k _) (Ev.bind (l1In_ev mode 1 7) (Ev.now _))
    have hrounds : Ev (fun k => F34 k sc mode) ((within sc 0 12 && within mode 1 7, ()), ((), (), ())) := by
      refine Ev.step 2 (fun k => F34_eq k _ _) (Ev.bind (in_ev sc 0 12) ?_)
      cases within sc 0 12 with
      | true => exact Ev.bind (in_ev mode 1 7) (Ev.now _)
      | false => exact Ev.now _
    cases c2 : within sc 0 12 with
    | false =>
      refine ⟨((false, [], 0, ()), 1, ()), by simp [dRound, dForm, c1, c2], by simp, Ev.step 2 (fun k => F11_eq k _ _ _ _ _) (Ev.bind (DecOk_ev n l s h) ?_), Ev.step 2 (fun k => F12_eq k _ _ _ _ _) (Ev.bind (l2Ok_ev n l s h) ?_)⟩
      · simp only [c1, Bool.not_true, Bool.false_eq_true, if_false]
        refine Ev.bind hrounds ?_
        simp only [c2, Bool.false_and, Bool.not_false, if_true]
        exact Ev.now _
      · simp only [c1, Bool.not_true, Bool.false_eq_true, if_false]
        refine Ev.bind (l1In_ev sc 0 12) ?_
        simp only [c2, Bool.not_false, if_true]
        exact Ev.now _
    | true =>
      cases c3 : within mode 1 7 with
      | false =>
        refine ⟨((false, [], 0, ()), 1, ()), by simp [dRound, dForm, c1, c2, c3], by simp, Ev.step 2 (fun k => F11_eq k _ _ _ _ _) (Ev.bind (DecOk_ev n l s h) ?_), Ev.step 2 (fun k => F12_eq k _ _ _ _ _) (Ev.bind (l2Ok_ev n l s h) ?_)⟩
        · simp only [c1, Bool.not_true, Bool.false_eq_true, if_false]
          refine Ev.bind hrounds ?_
          simp only [c2, c3, Bool.true_and, Bool.not_false, if_true]
          exact Ev.now _
        · simp only [c1, Bool.not_true, Bool.false_eq_true, if_false]
          refine Ev.bind (l1In_ev sc 0 12) ?_
          simp only [c2, Bool.not_true, Bool.false_eq_true, if_false]
          refine Ev.bind hmode ?_
          simp only [c3, Bool.not_false, if_true]
          exact Ev.now _
      | true =>
        obtain ⟨b1, _, t, rfl, ht⟩ := decOk_of c1
        obtain ⟨a16, ra, ta, hz⟩ := bOk_of b1
        have hd := digs_num ra ta
        have hnum := num_lt ra a16
        have w2 : 0 ≤ sc ∧ sc ≤ 12 := by simpa [within] using c2
        have w3 : 1 ≤ mode ∧ mode ≤ 7 := by simpa [within] using c3
        obtain ⟨u, rfl⟩ : ∃ u : Nat, sc = (u : Int) := ⟨sc.toNat, by omega⟩
        have i1 : ∀ {m : (Bool × List Int × Int × Unit) × Int × Unit}, Ev (fun k => if (decide ((u : Int) ≥ (t : Int))) = true then (F36 k n l (t : Int) (u : Int)).bind fun r3 => (F35 k r3.1.1.1 r3.1.1.2.1 (u : Int)).bind fun r4 => some (((r4.1.1.1, r4.1.1.2.1, r4.1.1.2.2.1, ()), r4.1.2.1, ()), (((), (), (), ()), (), (), ())) else (F38 k n l).bind fun r5 => (F39 k (IntKind.i64.wrap ((t : Int) - (u : Int)))).bind fun r6 => (F37 k r5.1.1.1 r5.1.1.2.1 r6.1.1 mode).bind fun r7 => (F35 k r7.1.1.1 r7.1.1.2.1 (u : Int)).bind fun r8 => some (((r8.1.1.1, r8.1.1.2.1, r8.1.1.2.2.1, ()), r8.1.2.1, ()), (((), (), (), ()), (), (), ()))) (m, (((), (), (), ()), (), (), ())) → Ev (fun k => F11 k n l (t : Int) (u : Int) mode) (m, (((), (), (), ()), (), (), ())) := by
          intro m hm
          refine Ev.step 2 (fun k => F11_eq k _ _ _ _ _) (Ev.bind (DecOk_ev n l t h) ?_)
          simp only [c1, Bool.not_true, Bool.false_eq_true, if_false]
          refine Ev.bind hrounds ?_
          simp only [c2, c3, Bool.and_self, Bool.not_true, Bool.false_eq_true, if_false]
          exact hm
        have i2 : ∀ {m : (Bool × List Int × Int × Unit) × Int × Unit}, Ev (fun k => F43 k n l (t : Int) (u : Int) mode) (m, (((), (), (), ()), (), (), ())) → Ev (fun k => F12 k n l (t : Int) (u : Int) mode) (m, (((), (), (), ()), (), (), ())) := by
          intro m hm
          refine Ev.step 2 (fun k => F12_eq k _ _ _ _ _) (Ev.bind (l2Ok_ev n l t h) ?_)
          simp only [c1, Bool.not_true, Bool.false_eq_true, if_false]
          refine Ev.bind (l1In_ev (u : Int) 0 12) ?_
          simp only [c2, Bool.not_true, Bool.false_eq_true, if_false]
          refine Ev.bind hmode ?_
          simp only [c3, Bool.not_true, Bool.false_eq_true, if_false]
          exact Ev.bind hm (Ev.now _)
        by_cases hge : t ≤ u
        · have cge : decide ((u : Int) ≥ (t : Int)) = true := decide_eq_true (by omega)
          have eu : t + (u - t) = u := by omega
          have a1 := at_ev (neg := n) (s := t) (m := u - t) ra a16 (by omega)
          have a2 := l2At_ev (neg := n) (s := t) (m := u - t) ra a16 (by omega)
          rw [eu] at a1 a2
          have k1 := pow_len hnum (show u - t ≤ 24 by omega)
          refine ⟨made n (num l * 10 ^ (u - t)) (u : Int), by simp [dRound, c1, c2, c3, hge], made_len1 (by omega), i1 ?_, i2 (Ev.step 2 (fun k => F43_eq k _ _ _ _ _) ?_)⟩
          · simp only [cge, if_true]
            exact Ev.bind a1 (Ev.bind (dec_ev (by omega)) (Ev.now _))
          · simp only [cge, if_true]
            exact Ev.bind a2 (Ev.bind (l2Make_ev (by omega)) (Ev.now _))
        · have cge : decide ((u : Int) ≥ (t : Int)) = false := decide_eq_false (by omega)
          have e1 : IntKind.i64.wrap ((t : Int) - (u : Int)) = ((t - u : Nat) : Int) := by rw [wrap64 (by omega) (by omega)]; omega
          have lt1 := ten_len (t - u)
          obtain ⟨q, q0, q1, q2, q3⟩ := quotient_both n (V := num l) (D := 10 ^ (t - u)) mode w3.1 w3.2 (Nat.pow_pos (by omega)) (by rw [hd]; omega) (by omega)
          rw [hd] at q2 q3
          have lq : (digs q).length ≤ 17 := digs_len_le (by
            have h1 : num l / 10 ^ (t - u) ≤ num l := Nat.div_le_self _ _
            have h2 : q ≤ num l + 1 := by omega
            have h3 : (10000 : Nat) ^ 17 = 10000 ^ 16 * 10000 := Nat.pow_succ ..
            omega)
          have hsg : Ev (fun k => F38 k n l) (((n, l, ()), ()), (((), (), ()), ())) := Ev.step 2 (fun k => F38_eq k _ _) (Ev.now _)
          refine ⟨made n q (u : Int), by simp [dRound, c1, c2, c3, hge, q0], made_len1 (by omega), i1 ?_, i2 (Ev.step 2 (fun k => F43_eq k _ _ _ _ _) ?_)⟩
          · simp only [cge, Bool.false_eq_true, if_false, e1]
            exact Ev.bind hsg (Ev.bind (ten_ev (t - u) (by omega)) (Ev.bind q2 (Ev.bind (dec_ev (by omega)) (Ev.now _))))
          · simp only [cge, Bool.false_eq_true, if_false, e1]
            exact Ev.bind (l1TenAbs_ev (t - u) (by omega)) (Ev.bind q3 (Ev.bind (l2Make_ev (by omega)) (Ev.now _)))
end Go.Proofs.YtennmjbdmglebaaGreatDoor.R
end

section
/-! Rf: products and quotients of decimals. -/
set_option autoImplicit false
set_option linter.unusedSimpArgs false
set_option linter.unusedVariables false
namespace Go.Proofs.YtennmjbdmglebaaGreatDoor.R
open Go.Rf
theorem signed_ev (n : Bool) (l : List Int) : Ev (fun k => F38 k n l) (((n, l, ()), ()), (((), (), ()), ())) := Ev.step 2 (fun k => F38_eq k _ _) (Ev.now _)
theorem len_lt {V m : Nat} (h : V < 10000 ^ m) : (digs V).length ≤ m := digs_len_le h
theorem lt_mul {A B a b : Nat} (ha : A < 10000 ^ a) (hb : B < 10000 ^ b) : A * B < 10000 ^ (a + b) := by
  rw [Nat.pow_add]
  have h1 : A * B ≤ A * 10000 ^ b := Nat.mul_le_mul_left _ (Nat.le_of_lt hb)
  have h2 : A * 10000 ^ b < 10000 ^ a * 10000 ^ b := Nat.mul_lt_mul_of_pos_right ha (Nat.pow_pos (by omega))
  omega
theorem ten_lt {m : Nat} (hm : m ≤ 28) : 10 ^ m < 10000 ^ 8 := by
  have h : (10000 : Nat) ^ 8 = 10 ^ 32 := by decide
  rw [h]
  exact Nat.pow_lt_pow_right (by omega) (by omega)
theorem rquo_le (neg : Bool) (V D : Nat) (mode : Int) : rquo neg V D mode ≤ V / D + 1 := by
  unfold rquo
  split
  · omega
  · split <;> omega
theorem rquo_len {neg : Bool} {V D m : Nat} {mode : Int} (h : V < 10000 ^ m) : (digs (rquo neg V D mode)).length ≤ m + 1 := by
  refine digs_len_le ?_
  have h1 := rquo_le neg V D mode
  have h2 : V / D ≤ V := Nat.div_le_self V D
  have h3 : (10000 : Nat) ^ (m + 1) = 10000 ^ m * 10000 := Nat.pow_succ ..
  have h4 : 0 < 10000 ^ m := Nat.pow_pos (by omega)
  omega
theorem mulNum {l1 l2 : List Int} (ra : InR l1) (rb : InR l2) : (VI l1 * VI l2).toNat = num l1 * num l2 := by
  rw [num_spec ra, num_spec rb, ← Int.natCast_mul, Int.toNat_natCast]
theorem mulTen {l1 : List Int} (ra : InR l1) (m : Nat) : (VI l1 * VI (digs (10 ^ m))).toNat = num l1 * 10 ^ m := by
  rw [num_spec ra, VI_digs, ← Int.natCast_mul, Int.toNat_natCast]
theorem len_num {l : List Int} (h : InR l) (t : Trim l) : ((l.length : Int) == 0) = decide (num l = 0) := by
  rw [← len_is0, digs_num h t]
theorem mode_ev (mode : Int) : Ev (fun k => F42 k mode) ((within mode 1 7, ()), ((), ())) := Ev.step 2 (fun k => F42_eq k _) (Ev.bind (l1In_ev mode 1 7) (Ev.now _))
theorem rounds_ev (sc mode : Int) : Ev (fun k => F34 k sc mode) ((within sc 0 12 && within mode 1 7, ()), ((), (), ())) := by
  refine Ev.step 2 (fun k => F34_eq k _ _) (Ev.bind (in_ev sc 0 12) ?_)
  cases within sc 0 12 with
  | true => exact Ev.bind (in_ev mode 1 7) (Ev.now _)
  | false => exact Ev.now _
/-- a quotient of decimals -/
def dDiv (n1 : Bool) (l1 : List Int) (s1 : Int) (n2 : Bool) (l2 : List Int) (s2 sc mode : Int) : (Bool × List Int × Int × Unit) × Int × Unit :=
  if decOk n1 l1 s1 = true ∧ decOk n2 l2 s2 = true ∧ within sc 0 12 = true ∧ within mode 1 7 = true then
    (if num l2 = 0 then ((false, [], 0, ()), 2, ()) else made (!(n1 == n2)) (rquo (!(n1 == n2)) (num l1 * 10 ^ (s2.toNat + sc.toNat)) (num l2 * 10 ^ s1.toNat) mode) sc) else dForm
section
variable (n1 : Bool) (l1 : List Int) (s1 : Int) (n2 : Bool) (l2 : List Int) (s2 sc mode : Int)
end
end Go.Proofs.YtennmjbdmglebaaGreatDoor.R
end

section
/-! Rf: products of decimals. -/
set_option autoImplicit false
set_option linter.unusedSimpArgs false
set_option linter.unusedVariables false
namespace Go.Proofs.YtennmjbdmglebaaGreatDoor.R
open Go.Rf
theorem sMul_ev {na nb : Bool} {a b : List Int} (ha : InR a) (hb : InR b) (la : a.length ≤ 100000) (lb : b.length ≤ 100000) : Ev (fun k => F53 k na a nb b) (((!(na == nb), digs (VI a * VI b).toNat, ()), ()), (((), (), ()), ((), (), ()), ())) :=
  Ev.step 2 (fun k => F53_eq k _ _ _ _) (Ev.bind (mul_ev ha hb la lb) (Ev.now _))
def dMul (n1 : Bool) (l1 : List Int) (s1 : Int) (n2 : Bool) (l2 : List Int) (s2 : Int) : (Bool × List Int × Int × Unit) × Int × Unit := if decOk n1 l1 s1 = true ∧ decOk n2 l2 s2 = true then
  (if s1 + s2 > 12 then made (!(n1 == n2)) (rquo (!(n1 == n2)) (num l1 * num l2) (10 ^ (s1.toNat + s2.toNat - 12)) 7) 12 else made (!(n1 == n2)) (num l1 * num l2) (s1 + s2)) else dForm
section
variable (n1 : Bool) (l1 : List Int) (s1 : Int) (n2 : Bool) (l2 : List Int) (s2 : Int)
theorem DecMul_both (h1 : l1.length ≤ 1048576) (h2 : l2.length ≤ 1048576) : ∃ m : (Bool × List Int × Int × Unit) × Int × Unit, m = dMul n1 l1 s1 n2 l2 s2 ∧ m.1.2.1.length ≤ 1000 ∧ Ev (fun k => F19 k n1 l1 s1 n2 l2 s2) (m, (((), (), (), ()), ((), (), (), ()), ())) ∧ Ev (fun k => F20 k n1 l1 s1 n2 l2 s2) (m, (((), (), (), ()), ((), (), (), ()), ())) := by
  cases c1 : decOk n1 l1 s1 with
  | false =>
    refine ⟨((false, [], 0, ()), 1, ()), by simp [dMul, dForm, c1], by simp, Ev.step 2 (fun k => F19_eq k _ _ _ _ _ _) (Ev.bind (decs_ev n1 l1 s1 n2 l2 s2 h1 h2) ?_), Ev.step 2 (fun k => F20_eq k _ _ _ _ _ _) (Ev.bind (l2Ok_ev n1 l1 s1 h1) ?_)⟩
    · simp only [c1, Bool.false_and, Bool.not_false, if_true]
      exact Ev.now _
    · simp only [c1, Bool.not_false, if_true]
      exact Ev.now _
  | true =>
    cases c2 : decOk n2 l2 s2 with
    | false =>
      refine ⟨((false, [], 0, ()), 1, ()), by simp [dMul, dForm, c1, c2], by simp, Ev.step 2 (fun k => F19_eq k _ _ _ _ _ _) (Ev.bind (decs_ev n1 l1 s1 n2 l2 s2 h1 h2) ?_), Ev.step 2 (fun k => F20_eq k _ _ _ _ _ _) (Ev.bind (l2Ok_ev n1 l1 s1 h1) ?_)⟩
      · simp only [c1, c2, Bool.and_false, Bool.not_false, if_true]
        exact Ev.now _
      · simp only [c1, Bool.not_true, Bool.false_eq_true, if_false]
        refine Ev.bind (l2Ok_ev n2 l2 s2 h2) ?_
        simp only [c2, Bool.not_false, if_true]
        exact Ev.now _
    | true =>
      obtain ⟨b1, _, t1, rfl, ht1⟩ := decOk_of c1
      obtain ⟨b2, _, t2, rfl, ht2⟩ := decOk_of c2
      obtain ⟨a16, ra, ta, _⟩ := bOk_of b1
      obtain ⟨b16, rb, tb, _⟩ := bOk_of b2
      have hV := lt_mul (num_lt ra a16) (num_lt rb b16)
      have k1 := len_lt hV
      have es : IntKind.i64.wrap ((t1 : Int) + (t2 : Int)) = ((t1 + t2 : Nat) : Int) := addN (by omega)
      have m1 := sMul_ev (na := n1) (nb := n2) ra rb (by omega) (by omega)
      have m2 := l1MulAbs_ev ra rb (by omega) (by omega)
      rw [mulNum ra rb] at m1 m2
      have go1 : ∀ {m : (Bool × List Int × Int × Unit) × Int × Unit}, Ev (fun k => if decide (((t1 + t2 : Nat) : Int) > (12 : Int)) = true then (F39 k (IntKind.i64.wrap (((t1 + t2 : Nat) : Int) - (12 : Int)))).bind fun r7 => (F37 k (!(n1 == n2)) (digs (num l1 * num l2)) r7.1.1 (7 : Int)).bind fun r8 => (F35 k r8.1.1.1 r8.1.1.2.1 (12 : Int)).bind fun r9 => some (((r9.1.1.1, r9.1.1.2.1, r9.1.1.2.2.1, ()), r9.1.2.1, ()), (((), (), (), ()), ((), (), (), ()), ())) else (F35 k (!(n1 == n2)) (digs (num l1 * num l2)) ((t1 + t2 : Nat) : Int)).bind fun r10 => some (((r10.1.1.1, r10.1.1.2.1, r10.1.1.2.2.1, ()), r10.1.2.1, ()), (((), (), (), ()), ((), (), (), ()), ()))) (m, (((), (), (), ()), ((), (), (), ()), ())) → Ev (fun k => F19 k n1 l1 (t1 : Int) n2 l2 (t2 : Int)) (m, (((), (), (), ()), ((), (), (), ()), ())) := by
        intro m hm
        refine Ev.step 2 (fun k => F19_eq k _ _ _ _ _ _) (Ev.bind (decs_ev n1 l1 _ n2 l2 _ h1 h2) ?_)
        simp only [c1, c2, Bool.and_self, Bool.not_true, Bool.false_eq_true, if_false]
        refine Ev.bind (signed_ev n1 l1) (Ev.bind (signed_ev n2 l2) (Ev.bind m1 ?_))
        simp only [es]
        exact hm
      have go2 : ∀ {m : (Bool × List Int × Int × Unit) × Int × Unit}, Ev (fun k => F54 k n1 l1 (t1 : Int) n2 l2 (t2 : Int)) (m, (((), (), (), ()), ((), (), (), ()), ())) → Ev (fun k => F20 k n1 l1 (t1 : Int) n2 l2 (t2 : Int)) (m, (((), (), (), ()), ((), (), (), ()), ())) := by
        intro m hm
        refine Ev.step 2 (fun k => F20_eq k _ _ _ _ _ _) (Ev.bind (l2Ok_ev n1 l1 _ h1) ?_)
        simp only [c1, Bool.not_true, Bool.false_eq_true, if_false]
        refine Ev.bind (l2Ok_ev n2 l2 _ h2) ?_
        simp only [c2, Bool.not_true, Bool.false_eq_true, if_false]
        exact Ev.bind hm (Ev.now _)
      have mc : ∀ {q : Nat} {sc : Int}, (digs q).length ≤ 100000 → Ev (fun k => F54c7 k false ([] : List Int) (0 : Int) (!(n1 == n2)) (digs q) sc) (made (!(n1 == n2)) q sc, (((), (), (), ()), ((), (), (), ()), ())) := fun h => Ev.step 1 (fun k => F54c7_eq k _ _ _ _ _ _) (Ev.bind (l2Make_ev h) (Ev.now _))
      by_cases hg : t1 + t2 > 12
      · have cg : decide (((t1 + t2 : Nat) : Int) > (12 : Int)) = true := decide_eq_true (by omega)
        have e1 : IntKind.i64.wrap (((t1 + t2 : Nat) : Int) - (12 : Int)) = ((t1 + t2 - 12 : Nat) : Int) := by rw [wrap64 (by omega) (by omega)]; omega
        obtain ⟨q, q0, _, q2, q3⟩ := quotient_both (!(n1 == n2)) (V := num l1 * num l2) (D := 10 ^ (t1 + t2 - 12)) 7 (by omega) (by omega) (Nat.pow_pos (by omega)) (by omega) (by have := ten_len (t1 + t2 - 12); omega)
        have lq : (digs q).length ≤ 33 := by rw [q0]; exact rquo_len hV
        refine ⟨made (!(n1 == n2)) q 12, by rw [q0]; simp [dMul, c1, c2]; omega, made_len1 (by omega), go1 ?_, go2 (Ev.step 2 (fun k => F54_eq k _ _ _ _ _ _) (Ev.bind m2 ?_))⟩
        · simp only [cg, if_true, e1]
          exact Ev.bind (ten_ev (t1 + t2 - 12) (by omega)) (Ev.bind q2 (Ev.bind (dec_ev (by omega)) (Ev.now _)))
        · simp only [es, cg, if_true, e1]
          exact Ev.bind (l1TenAbs_ev (t1 + t2 - 12) (by omega)) (Ev.bind q3 (mc (by omega)))
      · have cg : decide (((t1 + t2 : Nat) : Int) > (12 : Int)) = false := decide_eq_false (by omega)
        refine ⟨made (!(n1 == n2)) (num l1 * num l2) ((t1 + t2 : Nat) : Int), by simp [dMul, c1, c2]; omega, made_len1 (by omega), go1 ?_, go2 (Ev.step 2 (fun k => F54_eq k _ _ _ _ _ _) (Ev.bind m2 ?_))⟩
        · simp only [cg, Bool.false_eq_true, if_false]
          exact Ev.bind (dec_ev (by omega)) (Ev.now _)
        · simp only [es, cg, Bool.false_eq_true, if_false]
          exact mc (by omega)
end
end Go.Proofs.YtennmjbdmglebaaGreatDoor.R
end

section
/-! Rf, decimals: sums and differences, on both sides. -/
set_option autoImplicit false
set_option linter.unusedSimpArgs false
namespace Go.Proofs.YtennmjbdmglebaaGreatDoor.R
open Go.Rf
theorem made_len {neg : Bool} {n : Nat} {s : Int} (h : (digs n).length ≤ 100) : (made neg n s).1.2.1.length ≤ 1000 := by
  unfold made
  split
  · show ([] : List Int).length ≤ 1000
    simp
  · show (digs n).length ≤ 1000
    omega
theorem sSum_zero {na nb : Bool} {A : Nat} : sSum na A nb 0 = (na, A) := by
  unfold sSum
  split
  · rfl
  · rw [if_pos (Nat.zero_le _)]
    rfl
section
variable (n1 : Bool) (l1 : List Int) (s1 : Int) (n2 : Bool) (l2 : List Int) (s2 : Int)
/-- the sum of decimals; nb: the second's sign (turned where they are taken from each other) -/
def dSum (n1 : Bool) (l1 : List Int) (s1 : Int) (n2 : Bool) (l2 : List Int) (s2 : Int) (nb : Bool) : (Bool × List Int × Int × Unit) × Int × Unit := if decOk n1 l1 s1 = true ∧ decOk n2 l2 s2 = true then
  made (sSum n1 (num l1 * 10 ^ (max s1.toNat s2.toNat - s1.toNat)) nb (num l2 * 10 ^ (max s1.toNat s2.toNat - s2.toNat))).1 (sSum n1 (num l1 * 10 ^ (max s1.toNat s2.toNat - s1.toNat)) nb (num l2 * 10 ^ (max s1.toNat s2.toNat - s2.toNat))).2 ((max s1.toNat s2.toNat : Nat) : Int) else ((false, [], 0, ()), 1, ())
end
end Go.Proofs.YtennmjbdmglebaaGreatDoor.R
end

section
/-! Rf: decimals as whole numbers with a scale. -/
set_option autoImplicit false
set_option linter.unusedSimpArgs false
set_option linter.unusedVariables false
namespace Go.Proofs.YtennmjbdmglebaaGreatDoor.R
open Go.Rf
/-! ### figures -/
theorem decDigits_le : ∀ (k u : Nat), (Lib.decDigits u).length ≤ k + 1 → u < 10 ^ (k + 1)
  | 0, u, h => by
    by_cases hu : u < 10
    · simpa using hu
    · rw [Lib.decDigits, dif_neg hu, List.length_append] at h
      have : 0 < (Lib.decDigits (u / 10)).length := by
        rw [Lib.decDigits]; split <;> simp
      simp only [List.length_singleton] at h; omega
  | k + 1, u, h => by
    by_cases hu : u < 10
    · have : (1 : Nat) ≤ 10 ^ (k + 1) := Nat.pow_pos (by omega)
      rw [Nat.pow_succ]; omega
    · rw [Lib.decDigits, dif_neg hu, List.length_append] at h
      have := decDigits_le k (u / 10) (by simpa using h)
      rw [Nat.pow_succ]; omega
theorem dd1 {n : Nat} (h : n < 10) : Lib.decDigits n = [UInt8.ofNat (48 + n)] := by rw [Lib.decDigits, dif_pos h]
theorem ddS {n : Nat} (h : ¬ n < 10) : Lib.decDigits n = Lib.decDigits (n / 10) ++ [UInt8.ofNat (48 + n % 10)] := by rw [Lib.decDigits, dif_neg h]
theorem fig4_nat {n : Nat} (h : n < 10000) : fig4 (n : Int) = [UInt8.ofNat (48 + n / 1000), UInt8.ofNat (48 + n / 100 % 10), UInt8.ofNat (48 + n / 10 % 10), UInt8.ofNat (48 + n % 10)] := by
  rw [fig4, itoa_nat]
  by_cases h1 : n < 10
  · rw [dd1 h1, show n / 1000 = 0 by omega, show n / 100 = 0 by omega, show n / 10 = 0 by omega, show n % 10 = n by omega]
    rfl
  · by_cases h2 : n < 100
    · rw [ddS h1, dd1 (show n / 10 < 10 by omega), show n / 1000 = 0 by omega, show n / 100 = 0 by omega, show n / 10 % 10 = n / 10 by omega]
      rfl
    · by_cases h3 : n < 1000
      · rw [ddS h1, ddS (show ¬ n / 10 < 10 by omega), dd1 (show n / 10 / 10 < 10 by omega), show n / 1000 = 0 by omega, show n / 10 / 10 = n / 100 by omega, show n / 100 % 10 = n / 100 by omega]
        rfl
      · rw [ddS h1, ddS (show ¬ n / 10 < 10 by omega), ddS (show ¬ n / 10 / 10 < 10 by omega), dd1 (show n / 10 / 10 / 10 < 10 by omega), show n / 10 / 10 / 10 = n / 1000 by omega, show n / 10 / 10 = n / 100 by omega]
        rfl
theorem dd4 {n : Nat} (h : 10000 ≤ n) : Lib.decDigits n = Lib.decDigits (n / 10000) ++ fig4 ((n % 10000 : Nat) : Int) := by
  rw [fig4_nat (Nat.mod_lt _ (by omega)), ddS (show ¬ n < 10 by omega), ddS (show ¬ n / 10 < 10 by omega), ddS (show ¬ n / 10 / 10 < 10 by omega), ddS (show ¬ n / 10 / 10 / 10 < 10 by omega)]
  rw [show n / 10 / 10 / 10 / 10 = n / 10000 by omega, show n / 10 / 10 / 10 % 10 = n % 10000 / 1000 by omega, show n / 10 / 10 % 10 = n % 10000 / 100 % 10 by omega, show n / 10 % 10 = n % 10000 / 10 % 10 by omega, show n % 10 = n % 10000 % 10 by omega]
  simp only [List.append_assoc, List.singleton_append, List.cons_append, List.nil_append]
theorem figs_digs (n : Nat) (h : 0 < n) : figs (digs n) = Lib.decDigits n := by
  induction n using Nat.strongRecOn with
  | _ n ih =>
    rw [digs_pos (by omega)]
    by_cases h2 : n / 10000 = 0
    · rw [h2, digs_zero]
      show Lib.itoa _ = _
      rw [itoa_nat, show n % 10000 = n by omega]
    · have := ih (n / 10000) (by omega) (by omega)
      rw [dd4 (by omega), ← this]
      rw [digs_pos h2]
      rfl
theorem textL_digs (n : Nat) : textL (digs n) = ⟨(Lib.decDigits n).toArray⟩ := by
  by_cases h : n = 0
  · subst h
    rw [digs_zero, dd1 (by omega)]
    rfl
  · rw [textL_pos (by rw [digs_pos h]; simp), figs_digs n (by omega)]
theorem long_digs (n : Nat) : long (digs n) = if n = 0 then 0 else ((Lib.decDigits n).length : Int) := by
  unfold long
  by_cases h : n = 0
  · subst h; rw [digs_zero]; rfl
  · rw [if_neg h, if_neg (by rw [digs_pos h]; simp), textL_digs]
    rfl
theorem long30 (n : Nat) : long (digs n) > 30 ↔ ¬ n < 10 ^ 30 := by
  rw [long_digs]
  have h1 := decDigits_le 29 n
  have h2 := decDigits_len 29 n
  have h3 : (0 : Nat) < 10 ^ 30 := Nat.pow_pos (by omega)
  split
  · subst_vars
    constructor
    · intro h; omega
    · intro h; omega
  · constructor
    · intro h h'
      have := h2 h'
      omega
    · intro h
      have : ¬ (Lib.decDigits n).length ≤ 29 + 1 := fun h' => h (h1 h')
      omega
theorem lt30_16 {n : Nat} (h : n < 10 ^ 30) : n < 10000 ^ 16 := by
  have : (10 : Nat) ^ 30 < 10000 ^ 16 := by decide
  omega
theorem len16 {n : Nat} (h : n < 10 ^ 30) : (digs n).length ≤ 16 := digs_len_le (lt30_16 h)
theorem num_digs (n : Nat) : num (digs n) = n := by unfold num; rw [VI_digs]; rfl
/-! ### decimals -/
def sg (n : Bool) (A : Nat) : Int := if n = true then -(A : Int) else A
def D (z : Int) (s : Nat) : Bool × List Int × Int × Unit := (decide (z < 0), digs z.natAbs, (s : Int), ())
def mk (z : Int) (s : Nat) : (Bool × List Int × Int × Unit) × Int × Unit := if z.natAbs < 10 ^ 30 then (D z s, 0, ()) else ((false, [], 0, ()), 3, ())
theorem D_zero : D 0 0 = (false, [], 0, ()) := by
  unfold D
  rw [show (0 : Int).natAbs = 0 from rfl, digs_zero]
  rfl
theorem bOk_digs (z : Int) (h : z.natAbs < 10000 ^ 16) : bOk (decide (z < 0)) (digs z.natAbs) = true := by
  unfold bOk lastOk
  have h1 := digs_len_le h
  have h2 := digs_spec z.natAbs
  simp only [Bool.and_eq_true, decide_eq_true_eq]
  refine ⟨⟨h1, rangeOk_iff.2 h2.1⟩, ?_⟩
  by_cases h0 : z = 0
  · subst h0; rw [show (0 : Int).natAbs = 0 from rfl, digs_zero]; rfl
  · have hne : digs z.natAbs ≠ [] := fun e => h0 (by rw [digs_nil] at e; omega)
    rw [if_neg (fun e => hne (List.length_eq_zero_iff.1 e))]
    rcases h2.2.1 with h3 | h3
    · exact absurd h3 hne
    · exact bne_iff_ne.2 h3
theorem decOk_D {z : Int} {s : Nat} (h : z.natAbs < 10 ^ 30) (hs : s ≤ 12) : decOk (decide (z < 0)) (digs z.natAbs) (s : Int) = true := by
  unfold decOk
  rw [bOk_digs z (lt30_16 h), Bool.true_and, Bool.and_eq_true, decide_eq_true_eq]
  refine ⟨?_, ?_⟩
  · have h5 : ¬ long (digs z.natAbs) > 30 := fun h' => (long30 z.natAbs).1 h' h
    omega
  · unfold within
    simp; omega
theorem bOk_ex {n : Bool} {l : List Int} (h : bOk n l = true) : ∃ z : Int, n = decide (z < 0) ∧ l = digs z.natAbs ∧ z.natAbs < 10000 ^ 16 := by
  obtain ⟨h16, hr, ht, h0⟩ := bOk_of h
  refine ⟨sg n (num l), ?_, ?_, ?_⟩
  · unfold sg
    cases n with
    | false => simp
    | true =>
      have : l ≠ [] := fun e => by have := h0 e; cases this
      have := VI_pos hr ht this
      have h3 := num_spec hr
      simp; omega
  · have : (sg n (num l)).natAbs = num l := by unfold sg; split <;> omega
    rw [this, digs_num hr ht]
  · have : (sg n (num l)).natAbs = num l := by unfold sg; split <;> omega
    rw [this]
    have h1 := VI_lt hr
    rw [num_spec hr] at h1
    have h2 : num l < 10000 ^ l.length := by
      have : ((num l : Nat) : Int) < ((10000 ^ l.length : Nat) : Int) := by rw [Int.natCast_pow]; exact h1
      omega
    have h3 : 10000 ^ l.length ≤ 10000 ^ 16 := Nat.pow_le_pow_right (by omega) h16
    omega
theorem decOk_ex {n : Bool} {l : List Int} {s : Int} (h : decOk n l s = true) : ∃ (z : Int) (t : Nat), n = decide (z < 0) ∧ l = digs z.natAbs ∧ s = (t : Int) ∧ z.natAbs < 10 ^ 30 ∧ t ≤ 12 := by
  obtain ⟨h1, h2, t, h3, h4⟩ := decOk_of h
  obtain ⟨z, rfl, rfl, _⟩ := bOk_ex h1
  refine ⟨z, t, rfl, rfl, h3, ?_, h4⟩
  have h5 : ¬ ¬ z.natAbs < 10 ^ 30 := fun h' => by have := (long30 z.natAbs).2 h'; omega
  exact Decidable.not_not.1 h5
theorem sg_abs (n : Bool) (A : Nat) : (sg n A).natAbs = A := by unfold sg; split <;> omega
theorem made_mk (n : Bool) (A s : Nat) : made n A (s : Int) = mk (sg n A) s := by
  unfold made mk
  rw [sg_abs]
  have h := long30 A
  by_cases hA : A < 10 ^ 30
  · rw [if_neg (fun h' => h.1 h' hA), if_pos hA]
    unfold D
    rw [sg_abs, len_gt]
    have : (n && decide (A ≠ 0)) = decide (sg n A < 0) := by
      unfold sg
      cases n with
      | false => simp
      | true =>
        simp only [Bool.true_and, if_true]
        congr 1
        exact propext ⟨fun h => by omega, fun h => by omega⟩
    rw [this]
  · rw [if_pos (h.2 hA), if_neg hA]
theorem sg_sum (na : Bool) (A : Nat) (nb : Bool) (B : Nat) : sg (sSum na A nb B).1 (sSum na A nb B).2 = sg na A + sg nb B := by
  unfold sSum
  split
  · subst_vars
    unfold sg
    split <;> simp <;> omega
  · split
    · rename_i h1 h2
      unfold sg
      cases na <;> cases nb <;> simp_all <;> omega
    · rename_i h1 h2
      unfold sg
      cases na <;> cases nb <;> simp_all <;> omega
theorem sg_D (z : Int) : sg (decide (z < 0)) z.natAbs = z := by
  unfold sg
  by_cases h : z < 0
  · rw [if_pos (decide_eq_true h)]; omega
  · rw [if_neg (by simpa using h)]; omega
theorem sg_Dn (z : Int) : sg (!decide (z < 0)) z.natAbs = -z := by
  unfold sg
  by_cases h : z < 0
  · rw [decide_eq_true h]; simp; omega
  · rw [decide_eq_false h]; simp; omega
theorem sg_mul (n : Bool) (A k : Nat) : sg n (A * k) = sg n A * k := by
  unfold sg
  split
  · rw [Int.natCast_mul, Int.neg_mul]
  · rw [Int.natCast_mul]
theorem dSum_D {z1 z2 : Int} {s1 s2 : Nat} (h1 : z1.natAbs < 10 ^ 30) (h2 : z2.natAbs < 10 ^ 30) (t1 : s1 ≤ 12) (t2 : s2 ≤ 12) :
    dSum (decide (z1 < 0)) (digs z1.natAbs) (s1 : Int) (decide (z2 < 0)) (digs z2.natAbs) (s2 : Int) (decide (z2 < 0)) = mk (z1 * 10 ^ (max s1 s2 - s1) + z2 * 10 ^ (max s1 s2 - s2)) (max s1 s2) := by
  unfold dSum
  rw [if_pos ⟨decOk_D h1 t1, decOk_D h2 t2⟩, Int.toNat_natCast, Int.toNat_natCast, made_mk, sg_sum, sg_mul, sg_mul, num_digs, num_digs, sg_D, sg_D]
  simp only [Int.natCast_pow]
  rfl
theorem dSub_D {z1 z2 : Int} {s1 s2 : Nat} (h1 : z1.natAbs < 10 ^ 30) (h2 : z2.natAbs < 10 ^ 30) (t1 : s1 ≤ 12) (t2 : s2 ≤ 12) :
    dSum (decide (z1 < 0)) (digs z1.natAbs) (s1 : Int) (decide (z2 < 0)) (digs z2.natAbs) (s2 : Int) (!decide (z2 < 0)) = mk (z1 * 10 ^ (max s1 s2 - s1) - z2 * 10 ^ (max s1 s2 - s2)) (max s1 s2) := by
  unfold dSum
  rw [if_pos ⟨decOk_D h1 t1, decOk_D h2 t2⟩, Int.toNat_natCast, Int.toNat_natCast, made_mk, sg_sum, sg_mul, sg_mul, num_digs, num_digs, sg_D, sg_Dn]
  simp only [Int.natCast_pow, Int.neg_mul]
  rfl
def cmpZ (x y : Int) : Int := if x < y then -1 else if x = y then 0 else 1
theorem sCmp_sg {na nb : Bool} {A B : Nat} (ha : na = true → 0 < A) (hb : nb = true → 0 < B) : sCmp na A nb B = cmpZ (sg na A) (sg nb B) := by
  unfold sCmp cmpZ sg cmpI
  cases na <;> cases nb <;> simp at ha hb ⊢ <;> (repeat' split) <;> omega
theorem pow10_pos (k : Nat) : (0 : Int) < 10 ^ k := Int.pow_pos (by omega)
theorem dCmp_D {z1 z2 : Int} {s1 s2 : Nat} : dCmp (decide (z1 < 0)) (digs z1.natAbs) s1 (decide (z2 < 0)) (digs z2.natAbs) s2 = cmpZ (z1 * 10 ^ (max s1 s2 - s1)) (z2 * 10 ^ (max s1 s2 - s2)) := by
  unfold dCmp
  rw [num_digs, num_digs, sCmp_sg, sg_mul, sg_mul, sg_D, sg_D]
  · simp only [Int.natCast_pow]; rfl
  · intro h
    have : z1 < 0 := by simpa using h
    exact Nat.mul_pos (by omega) (Nat.pow_pos (by omega))
  · intro h
    have : z2 < 0 := by simpa using h
    exact Nat.mul_pos (by omega) (Nat.pow_pos (by omega))
/-- a quotient that is rounded, with sign -/
def rdiv (mode : Int) (z : Int) (d : Nat) : Int := sg (decide (z < 0)) (rquo (decide (z < 0)) z.natAbs d mode)
theorem dRound_D {z : Int} {s sc : Nat} {mode : Int} (h : z.natAbs < 10 ^ 30) (t : s ≤ 12) (hc : sc ≤ 12) (hm : 1 ≤ mode ∧ mode ≤ 7) :
    dRound (decide (z < 0)) (digs z.natAbs) (s : Int) (sc : Int) mode = if s ≤ sc then mk (z * 10 ^ (sc - s)) sc else mk (rdiv mode z (10 ^ (s - sc))) sc := by
  unfold dRound
  rw [if_pos ⟨decOk_D h t, by unfold within; simp; omega, by unfold within; simp; omega⟩, Int.toNat_natCast, Int.toNat_natCast]
  split
  · rw [made_mk, sg_mul, num_digs, sg_D]
    simp only [Int.natCast_pow]; rfl
  · rw [made_mk, num_digs]
    rfl
theorem sg_neg_zero (n : Bool) : sg n 0 = 0 := by unfold sg; split <;> rfl
theorem rquo_zero (n : Bool) (d : Nat) (mode : Int) : rquo n 0 d mode = 0 := by unfold rquo; simp
theorem neg_mul_lt {x y : Int} (hx : x < 0) (hy : 0 < y) : x * y < 0 := Int.mul_neg_of_neg_of_pos hx hy
/-- the sign of a product -/
theorem mul_neg (x y : Int) (h : x * y ≠ 0) : (!(decide (x < 0) == decide (y < 0))) = decide (x * y < 0) := by
  have hx : x ≠ 0 := fun e => h (by rw [e]; simp)
  have hy : y ≠ 0 := fun e => h (by rw [e]; simp)
  by_cases h1 : x < 0 <;> by_cases h2 : y < 0
  · have := Int.mul_pos_of_neg_of_neg h1 h2
    simp [h1, h2]; omega
  · have := Int.mul_neg_of_neg_of_pos h1 (show 0 < y by omega)
    simp [h1, h2]; omega
  · have := Int.mul_neg_of_pos_of_neg (show 0 < x by omega) h2
    simp [h1, h2]; omega
  · have := Int.mul_pos (show 0 < x by omega) (show 0 < y by omega)
    simp [h1, h2]; omega
theorem sg_prod (x y : Int) : sg (!(decide (x < 0) == decide (y < 0))) (x.natAbs * y.natAbs) = x * y := by
  rw [← Int.natAbs_mul]
  by_cases h : x * y = 0
  · rw [h]; exact sg_neg_zero _
  · rw [mul_neg x y h, sg_D]
theorem rdiv_prod (x y : Int) (d : Nat) (mode : Int) : sg (!(decide (x < 0) == decide (y < 0))) (rquo (!(decide (x < 0) == decide (y < 0))) (x.natAbs * y.natAbs) d mode) = rdiv mode (x * y) d := by
  rw [← Int.natAbs_mul]
  by_cases h : x * y = 0
  · rw [h]
    unfold rdiv
    rw [show (0 : Int).natAbs = 0 from rfl, rquo_zero, rquo_zero, sg_neg_zero, sg_neg_zero]
  · rw [mul_neg x y h]
    rfl
theorem dMul_D {z1 z2 : Int} {s1 s2 : Nat} (h1 : z1.natAbs < 10 ^ 30) (h2 : z2.natAbs < 10 ^ 30) (t1 : s1 ≤ 12) (t2 : s2 ≤ 12) :
    dMul (decide (z1 < 0)) (digs z1.natAbs) (s1 : Int) (decide (z2 < 0)) (digs z2.natAbs) (s2 : Int) = if s1 + s2 > 12 then mk (rdiv 7 (z1 * z2) (10 ^ (s1 + s2 - 12))) 12 else mk (z1 * z2) (s1 + s2) := by
  unfold dMul
  rw [if_pos ⟨decOk_D h1 t1, decOk_D h2 t2⟩, Int.toNat_natCast, Int.toNat_natCast, num_digs, num_digs]
  by_cases h : s1 + s2 > 12
  · rw [if_pos (by omega), if_pos h, show (12 : Int) = ((12 : Nat) : Int) from rfl, made_mk, rdiv_prod]
  · rw [if_neg (by omega), if_neg h, ← Int.natCast_add, made_mk, sg_prod]
theorem trimN_spec : ∀ (s V : Nat), (trimN V s).2 ≤ s ∧ (trimN V s).1 * 10 ^ (s - (trimN V s).2) = V ∧ ((trimN V s).2 = 0 ∨ (trimN V s).1 % 10 ≠ 0)
  | 0, V => by simp [trimN]
  | s + 1, V => by
    rw [trimN]
    split
    · obtain ⟨h1, h2, h3⟩ := trimN_spec s (V / 10)
      refine ⟨by omega, ?_, h3⟩
      rw [show s + 1 - (trimN (V / 10) s).2 = (s - (trimN (V / 10) s).2) + 1 by omega, Nat.pow_succ, ← Nat.mul_assoc, h2]
      omega
    · exact ⟨Nat.le_refl _, by simp, .inr (by assumption)⟩
theorem trimN_same {s V : Nat} (h : s = 0 ∨ V % 10 ≠ 0) : trimN V s = (V, s) := by
  cases s with
  | zero => rfl
  | succ s =>
    rw [trimN, if_neg (by omega)]
theorem dTrim_D {z : Int} {s : Nat} (h : z.natAbs < 10 ^ 30) (t : s ≤ 12) : ∃ (y : Int) (r : Nat), dTrim (decide (z < 0)) (digs z.natAbs) (s : Int) = D y r ∧ y.natAbs < 10 ^ 30 ∧ r ≤ s ∧ y * 10 ^ (s - r) = z ∧ (r = 0 ∨ y % 10 ≠ 0) := by
  obtain ⟨h1, h2, h3⟩ := trimN_spec s z.natAbs
  refine ⟨sg (decide (z < 0)) (trimN z.natAbs s).1, (trimN z.natAbs s).2, ?_, ?_, h1, ?_, ?_⟩
  · unfold dTrim
    rw [if_pos (decOk_D h t), Int.toNat_natCast, num_digs]
    unfold D
    rw [sg_abs]
    refine Prod.ext ?_ rfl
    show decide (z < 0) = decide (sg _ _ < 0)
    unfold sg
    by_cases hz : z < 0
    · have : (trimN z.natAbs s).1 ≠ 0 := fun e => by rw [e, Nat.zero_mul] at h2; omega
      simp [hz]; omega
    · simp [hz]
  · rw [sg_abs]
    have : (trimN z.natAbs s).1 ≤ z.natAbs := by
      conv => rhs; rw [← h2]
      exact Nat.le_mul_of_pos_right _ (Nat.pow_pos (by omega))
    omega
  · have : sg (decide (z < 0)) ((trimN z.natAbs s).1 * 10 ^ (s - (trimN z.natAbs s).2)) = z := by rw [h2, sg_D]
    rw [sg_mul, Int.natCast_pow] at this
    exact this
  · rcases h3 with h3 | h3
    · exact .inl h3
    · right
      unfold sg
      split <;> omega
theorem dTrim_same {z : Int} {s : Nat} (h : z.natAbs < 10 ^ 30) (t : s ≤ 12) (h3 : s = 0 ∨ z % 10 ≠ 0) : dTrim (decide (z < 0)) (digs z.natAbs) (s : Int) = D z s := by
  unfold dTrim
  rw [if_pos (decOk_D h t), Int.toNat_natCast, num_digs, trimN_same (by rcases h3 with h3 | h3; exact .inl h3; right; omega)]
  rfl
end Go.Proofs.YtennmjbdmglebaaGreatDoor.R
end

section
/-! Rf: what the laws draw: numbers and decimals. -/
set_option autoImplicit false
set_option linter.unusedSimpArgs false
set_option linter.unusedVariables false
namespace Go.Proofs.YtennmjbdmglebaaGreatDoor.R
open Go.Rf
/-- a reader's bytes -/
structure Rd (bs : List Int) : Prop where
  len : bs.length ≤ 2000
  b8 : ∀ y ∈ bs, 0 ≤ y ∧ y ≤ 255
theorem xor_small {a b : Int} (ha : 0 ≤ a) (ha2 : a < 4611686018427387904) (hb : 0 ≤ b) (hb2 : b < 4611686018427387904) : 0 ≤ IntKind.i64.wrap (((BitVec.ofInt IntKind.i64.bits a ^^^ BitVec.ofInt IntKind.i64.bits b).toNat : Nat) : Int) := by
  have e : IntKind.i64.bits = 64 := rfl
  have h1 : (BitVec.ofInt IntKind.i64.bits a).toNat < 2 ^ 62 := by
    rw [BitVec.toNat_ofInt, e]
    omega
  have h2 : (BitVec.ofInt IntKind.i64.bits b).toNat < 2 ^ 62 := by
    rw [BitVec.toNat_ofInt, e]
    omega
  have h3 : (BitVec.ofInt IntKind.i64.bits a ^^^ BitVec.ofInt IntKind.i64.bits b).toNat < 2 ^ 62 := by
    rw [BitVec.toNat_xor]
    exact Nat.xor_lt_two_pow h1 h2
  rw [wrap64 (by omega) (by omega)]
  omega
theorem tmod_range {x n : Int} (hx : 0 ≤ x) (hn : 1 ≤ n) : 0 ≤ x.tmod n ∧ x.tmod n < n := by
  rw [Int.tmod_eq_emod_of_nonneg hx]
  exact ⟨Int.emod_nonneg _ (by omega), Int.emod_lt_of_pos _ (by omega)⟩
theorem pick_ev {bs : List Int} (hb : Rd bs) {p : Nat} (hp : p ≤ 1000000000) (n : Int) : ∃ v : Int, (0 ≤ v ∧ (1 ≤ n → v < n) ∧ (n < 1 → v = 0)) ∧ Ev (fun k => F32 k bs (p : Int) n) ((v, ()), ((bs, ((p + 1 : Nat) : Int), ()), (), ())) := by
  have e1 : IntKind.i64.wrap ((p : Int) + 1) = ((p + 1 : Nat) : Int) := wrap_succ (by omega)
  have e2 : IntKind.i64.wrap (((p + 1 : Nat) : Int) - 1) = (p : Int) := by rw [wrap64 (by omega) (by omega)]; omega
  have st : ∀ {r}, Ev (fun _ => if (decide (n < (1 : Int))) = true then some (((0 : Int), ()), ((bs, ((p + 1 : Nat) : Int), ()), (), ())) else if ((bs.length : Int) == (0 : Int)) = true then some (((0 : Int), ()), ((bs, ((p + 1 : Nat) : Int), ()), (), ())) else if (decide ((p : Int) < (bs.length : Int))) = true then if (decide (0 ≤ (p : Int))) = true then (bs[((p : Int)).toNat]?).bind fun y1 => if (!(n == 0)) = true then some ((((IntKind.i64.wrap y1).tmod n), ()), ((bs, ((p + 1 : Nat) : Int), ()), (), ())) else none else none else if (!((bs.length : Int) == 0)) = true then if (decide (0 ≤ ((p : Int).tmod (bs.length : Int)))) = true then (bs[((p : Int).tmod (bs.length : Int)).toNat]?).bind fun y2 => if (!((bs.length : Int) == 0)) = true then if (decide (0 ≤ ((IntKind.i64.wrap ((IntKind.i64.wrap ((p : Int) * (7 : Int))) + (3 : Int))).tmod (bs.length : Int)))) = true then (bs[((IntKind.i64.wrap ((IntKind.i64.wrap ((p : Int) * (7 : Int))) + (3 : Int))).tmod (bs.length : Int)).toNat]?).bind fun y3 => if (!((bs.length : Int) == 0)) = true then if (!(n == 0)) = true then some ((((IntKind.i64.wrap (((BitVec.ofInt IntKind.i64.bits (IntKind.i64.wrap ((IntKind.i64.wrap ((IntKind.i64.wrap ((IntKind.i64.wrap ((IntKind.i64.wrap y2) * (131 : Int))) + (IntKind.i64.wrap ((IntKind.i64.wrap y3) * (1117 : Int))))) + (IntKind.i64.wrap ((p : Int) * (29 : Int))))) + (IntKind.i64.wrap ((IntKind.i64.wrap ((p : Int).tdiv (bs.length : Int))) * (53 : Int))))) ^^^ BitVec.ofInt IntKind.i64.bits (IntKind.i64.wrap ((IntKind.i64.wrap ((IntKind.i64.wrap ((IntKind.i64.wrap ((IntKind.i64.wrap ((IntKind.i64.wrap y2) * (131 : Int))) + (IntKind.i64.wrap ((IntKind.i64.wrap y3) * (1117 : Int))))) + (IntKind.i64.wrap ((p : Int) * (29 : Int))))) + (IntKind.i64.wrap ((IntKind.i64.wrap ((p : Int).tdiv (bs.length : Int))) * (53 : Int))))).tdiv (64 : Int)))).toNat : Int))).tmod n), ()), ((bs, ((p + 1 : Nat) : Int), ()), (), ())) else none else none else none else none else none else none) r → Ev (fun k => F32 k bs (p : Int) n) r := by
    intro r h
    refine Ev.step 2 (fun k => F32_eq k _ _ _) ?_
    simp only [e1, e2]
    exact h
  by_cases h1 : n < 1
  · refine ⟨0, ⟨Int.le_refl _, fun h => by omega, fun _ => rfl⟩, st ?_⟩
    simp only [decide_eq_true h1, if_true]
    exact Ev.now _
  · have hn : (!(n == 0)) = true := by simp; omega
    by_cases h2 : bs.length = 0
    · refine ⟨0, ⟨Int.le_refl _, fun h => by omega, fun _ => rfl⟩, st ?_⟩
      simp only [decide_eq_false h1, Bool.false_eq_true, if_false, h2, Int.ofNat_zero, beq_self_eq_true, if_true]
      exact Ev.now _
    · have hl0 : ((bs.length : Int) == 0) = false := by rw [beq_eq_false_iff_ne]; omega
      by_cases h3 : p < bs.length
      · obtain ⟨y, hy⟩ : ∃ y, bs[p]? = some y := ⟨_, List.getElem?_eq_getElem h3⟩
        have hy8 := hb.b8 y (List.mem_of_getElem? hy)
        have hr := tmod_range (n := n) hy8.1 (by omega)
        refine ⟨y.tmod n, ⟨hr.1, fun _ => hr.2, fun h => by omega⟩, st ?_⟩
        have ey : IntKind.i64.wrap y = y := wrap64 (by omega) (by omega)
        simp only [decide_eq_false h1, Bool.false_eq_true, if_false, hl0, lt_true h3, ge0, if_true, Int.toNat_natCast, hy, Option.bind_some, hn, ey]
        exact Ev.now _
      · have hpos : (0 : Int) < (bs.length : Int) := by omega
        have t1 := tmod_range (x := (p : Int)) (n := (bs.length : Int)) (by omega) (by omega)
        have w7 : IntKind.i64.wrap ((p : Int) * 7) = (p : Int) * 7 := wrap64 (by omega) (by omega)
        have w73 : IntKind.i64.wrap ((p : Int) * 7 + 3) = (p : Int) * 7 + 3 := wrap64 (by omega) (by omega)
        have t2 := tmod_range (x := (p : Int) * 7 + 3) (n := (bs.length : Int)) (by omega) (by omega)
        obtain ⟨y, hy⟩ : ∃ y, bs[((p : Int).tmod (bs.length : Int)).toNat]? = some y := ⟨_, List.getElem?_eq_getElem (by omega)⟩
        obtain ⟨z, hz⟩ : ∃ z, bs[((((p : Int) * 7 + 3)).tmod (bs.length : Int)).toNat]? = some z := ⟨_, List.getElem?_eq_getElem (by omega)⟩
        have hy8 := hb.b8 y (List.mem_of_getElem? hy)
        have hz8 := hb.b8 z (List.mem_of_getElem? hz)
        have ey : IntKind.i64.wrap y = y := wrap64 (by omega) (by omega)
        have ez : IntKind.i64.wrap z = z := wrap64 (by omega) (by omega)
        have d0 : 0 ≤ (p : Int).tdiv (bs.length : Int) ∧ (p : Int).tdiv (bs.length : Int) ≤ (p : Int) := by
          rw [Int.tdiv_eq_ediv_of_nonneg (by omega)]
          exact ⟨Int.ediv_nonneg (by omega) (by omega), Int.ediv_le_self _ (by omega)⟩
        obtain ⟨d, hd⟩ : ∃ d, d = (p : Int).tdiv (bs.length : Int) := ⟨_, rfl⟩
        rw [← hd] at d0
        have w1 : IntKind.i64.wrap (y * 131) = y * 131 := wrap64 (by omega) (by omega)
        have w2 : IntKind.i64.wrap (z * 1117) = z * 1117 := wrap64 (by omega) (by omega)
        have w3 : IntKind.i64.wrap (y * 131 + z * 1117) = y * 131 + z * 1117 := wrap64 (by omega) (by omega)
        have w4 : IntKind.i64.wrap ((p : Int) * 29) = (p : Int) * 29 := wrap64 (by omega) (by omega)
        have w5 : IntKind.i64.wrap (y * 131 + z * 1117 + (p : Int) * 29) = y * 131 + z * 1117 + (p : Int) * 29 := wrap64 (by omega) (by omega)
        have w6 : IntKind.i64.wrap d = d := wrap64 (by omega) (by omega)
        have w8 : IntKind.i64.wrap (d * 53) = d * 53 := wrap64 (by omega) (by omega)
        obtain ⟨X, hX⟩ : ∃ X, X = y * 131 + z * 1117 + (p : Int) * 29 + d * 53 := ⟨_, rfl⟩
        have hX0 : 0 ≤ X ∧ X ≤ 1000000000000 := by omega
        have w9 : IntKind.i64.wrap X = X := wrap64 (by omega) (by omega)
        have q0 : 0 ≤ X.tdiv 64 ∧ X.tdiv 64 ≤ X := by
          rw [Int.tdiv_eq_ediv_of_nonneg (by omega)]
          omega
        have w10 : IntKind.i64.wrap (X.tdiv 64) = X.tdiv 64 := wrap64 (by omega) (by omega)
        have hx := xor_small (a := X) (b := X.tdiv 64) (by omega) (by omega) (by omega) (by omega)
        have hr := tmod_range (n := n) hx (by omega)
        refine ⟨_, ⟨hr.1, fun _ => hr.2, fun h => by omega⟩, st ?_⟩
        simp only [decide_eq_false h1, Bool.false_eq_true, if_false, hl0, lt_false (show bs.length ≤ p by omega), Bool.not_false, if_true, decide_eq_true t1.1, hy, Option.bind_some, w7, w73, decide_eq_true t2.1, hz, hn, ey, ez, w1, w2, w3, w4, w5, ← hd, w6, w8, ← hX, w9, w10]
        exact Ev.now _
theorem one_ev {bs : List Int} (hb : Rd bs) {p : Nat} (hp : p ≤ 1000000000) (l : List Int) (hl : 0 < l.length) : ∃ v ∈ l, Ev (fun k => F31 k bs (p : Int) l) ((v, ()), ((bs, ((p + 1 : Nat) : Int), ()), (), ())) := by
  obtain ⟨v, ⟨h0, h1, _⟩, h2⟩ := pick_ev hb hp (l.length : Int)
  have h1 := h1 (by omega)
  obtain ⟨y, hy⟩ : ∃ y, l[v.toNat]? = some y := ⟨_, List.getElem?_eq_getElem (by omega)⟩
  refine ⟨y, List.mem_of_getElem? hy, Ev.step 2 (fun k => F31_eq k _ _ _) (Ev.bind h2 ?_)⟩
  simp only [decide_eq_true h0, decide_eq_true h1, Bool.and_self, if_true, hy, Option.bind_some]
  exact Ev.now _
/-! ### figures -/
def Fig (s : ByteArray) : Prop := ∀ b ∈ s.data.toList, 48 ≤ b.toNat ∧ b.toNat ≤ 57
theorem Fig.app {s t : ByteArray} (hs : Fig s) (ht : Fig t) : Fig (s ++ t) := by
  intro b hb
  rw [ByteArray.data_append, Array.toList_append, List.mem_append] at hb
  rcases hb with hb | hb
  · exact hs b hb
  · exact ht b hb
theorem fig1 {d : Nat} (h : d < 10) : Fig ⟨[UInt8.ofNat (48 + d)].toArray⟩ := by
  intro b hb
  have hb : b ∈ [UInt8.ofNat (48 + d)] := hb
  rw [List.mem_singleton.1 hb, UInt8.toNat_ofNat']
  omega
theorem size_app (s t : ByteArray) : (s ++ t).size = s.size + t.size := ByteArray.size_append ..
section
variable {bs : List Int} (hb : Rd bs)
include hb
theorem figsI {n : Nat} (hn : n ≤ 64) : ∀ (m p : Nat) (s : ByteArray), s.size + m = max n s.size → p + 2 * m ≤ 1000000 → Fig s → s.size ≤ 64 → ∃ (t : ByteArray) (q : Nat), q ≤ p + 2 * m ∧ Fig t ∧ t.size ≤ 64 ∧ 0 < s.size + t.size + 1 ∧ s.size ≤ t.size ∧
    Ev (fun k => F79c4 k bs (p : Int) (n : Int) s) ((t, ()), ((bs, (q : Int), ()), (), ())) := by
  intro m
  induction m with
  | zero =>
    intro p s hs hp hf h64
    refine ⟨s, p, by omega, hf, h64, by omega, Nat.le_refl _, Ev.step 1 (fun k => F79c4_eq k _ _ _ _) ?_⟩
    simp only [lt_false (show n ≤ s.size by omega), Bool.false_eq_true, if_false]
    exact Ev.now _
  | succ m ih =>
    intro p s hs hp hf h64
    obtain ⟨v1, ⟨a0, a1, _⟩, h1⟩ := pick_ev hb (show p ≤ 1000000000 by omega) 10
    have a1 := a1 (by omega)
    obtain ⟨v2, hm, h2⟩ := one_ev hb (show p + 1 ≤ 1000000000 by omega) [0, 0, 9, 9, 5, 1, v1] (by simp)
    have hv : 0 ≤ v2 ∧ v2 < 10 := by
      simp only [List.mem_cons, List.not_mem_nil, or_false] at hm
      omega
    obtain ⟨d, rfl⟩ : ∃ d : Nat, v2 = (d : Int) := ⟨v2.toNat, by omega⟩
    have hd : d < 10 := by omega
    have hsz : (⟨[UInt8.ofNat (48 + d)].toArray⟩ : ByteArray).size = 1 := rfl
    have hs2 : (s ++ (⟨[UInt8.ofNat (48 + d)].toArray⟩ : ByteArray)).size = s.size + 1 := by rw [size_app, hsz]
    obtain ⟨t, q, hq, ht, ht64, _, hle, hE⟩ := ih (p + 1 + 1) (s ++ (⟨[UInt8.ofNat (48 + d)].toArray⟩ : ByteArray)) (by rw [hs2]; omega) (by omega) (hf.app (fig1 hd)) (by rw [hs2]; omega)
    refine ⟨t, q, by omega, ht, ht64, by omega, by omega, Ev.step 1 (fun k => F79c4_eq k _ _ _ _) ?_⟩
    simp only [lt_true (show s.size < n by omega), if_true]
    refine Ev.bind h1 (Ev.bind h2 ?_)
    simp only [bytesOf_digit hd, hsz]
    have hble : Nat.ble (s.size + 1) 9223372036854775807 = true := Nat.ble_eq_true_of_le (by omega)
    simp only [hble, if_true]
    exact hE
theorem figs_ev {n : Int} (h0 : 0 ≤ n) (hn : n ≤ 64) {p : Nat} (hp : p + 200 ≤ 1000000) : ∃ (t : ByteArray) (q : Nat), q ≤ p + 200 ∧ Fig t ∧ t.size ≤ 64 ∧ Ev (fun k => F79 k bs (p : Int) n) ((t, ()), ((bs, (q : Int), ()), (), ())) := by
  obtain ⟨m, rfl⟩ : ∃ m : Nat, n = (m : Int) := ⟨n.toNat, by omega⟩
  by_cases h1 : m < 1
  · refine ⟨⟨#[48]⟩, p, by omega, fig1 (d := 0) (by omega), by decide, Ev.step 2 (fun k => F79_eq k _ _ _) ?_⟩
    simp only [decide_eq_true (show (m : Int) < 1 by omega), if_true]
    exact Ev.now _
  · obtain ⟨v, ⟨a0, a1, _⟩, h2⟩ := pick_ev hb (show p ≤ 1000000000 by omega) 9
    have a1 := a1 (by omega)
    obtain ⟨d, rfl⟩ : ∃ d : Nat, v = (d : Int) := ⟨v.toNat, by omega⟩
    have e : (49 : Int) + (d : Int) = 48 + ((d + 1 : Nat) : Int) := by omega
    obtain ⟨t, q, hq, ht, ht64, _, _, hE⟩ := figsI hb (n := m) (by omega) (m - 1) (p + 1) ⟨[UInt8.ofNat (48 + (d + 1))].toArray⟩ (by show 1 + (m - 1) = max m 1; omega) (by omega) (fig1 (by omega)) (by show 1 ≤ 64; omega)
    refine ⟨t, q, by omega, ht, ht64, Ev.step 2 (fun k => F79_eq k _ _ _) ?_⟩
    simp only [decide_eq_false (show ¬ (m : Int) < 1 by omega), Bool.false_eq_true, if_false]
    refine Ev.bind h2 ?_
    simp only [e, bytesOf_digit (show d + 1 < 10 by omega)]
    exact hE
end
theorem many_ev {a : ByteArray} (ha : Fig a) (h1 : a.size = 1) : ∀ (m : Nat) (s : ByteArray), Fig s → s.size + m ≤ 64 → ∃ t : ByteArray, Fig t ∧ t.size = s.size + m ∧ Ev (fun k => F80c2 k a (m : Int) s) ((t, ()), ((), (), ())) := by
  intro m
  induction m with
  | zero =>
    intro s hs hm
    refine ⟨s, hs, rfl, Ev.step 1 (fun k => F80c2_eq k _ _ _) ?_⟩
    simp only [show decide (((0 : Nat) : Int) > 0) = false from by decide, Bool.false_eq_true, if_false]
    exact Ev.now _
  | succ m ih =>
    intro s hs hm
    have hsz : (s ++ a).size = s.size + 1 := by rw [size_app, h1]
    obtain ⟨t, ht, ht2, hE⟩ := ih (s ++ a) (hs.app ha) (by omega)
    have e : IntKind.i64.wrap (((m + 1 : Nat) : Int) - 1) = (m : Int) := by rw [wrap64 (by omega) (by omega)]; omega
    have hble : Nat.ble (s.size + a.size) 9223372036854775807 = true := Nat.ble_eq_true_of_le (by omega)
    refine ⟨t, ht, by omega, Ev.step 1 (fun k => F80c2_eq k _ _ _) ?_⟩
    simp only [decide_eq_true (show ((m + 1 : Nat) : Int) > 0 by omega), if_true, hble, e]
    exact hE
theorem l1Many_ev {a : ByteArray} (ha : Fig a) (h1 : a.size = 1) {n : Int} (hn : n ≤ 64) (h0 : -10 ≤ n) : ∃ t : ByteArray, Fig t ∧ t.size = n.toNat ∧ Ev (fun k => F80 k a n) ((t, ()), ((), (), ())) := by
  by_cases h : 0 ≤ n
  · obtain ⟨m, rfl⟩ : ∃ m : Nat, n = (m : Int) := ⟨n.toNat, by omega⟩
    obtain ⟨t, h2, h3, h4⟩ := many_ev ha h1 m ⟨#[]⟩ (fun b hb => by simp at hb) (by show 0 + m ≤ 64; omega)
    exact ⟨t, h2, by rw [h3]; show 0 + m = _; omega, Ev.step 2 (fun k => F80_eq k _ _) h4⟩
  · refine ⟨⟨#[]⟩, fun b hb => by simp at hb, by show 0 = _; omega, Ev.step 2 (fun k => F80_eq k _ _) (Ev.step 1 (fun k => F80c2_eq k _ _ _) ?_)⟩
    simp only [decide_eq_false (show ¬ n > 0 by omega), Bool.false_eq_true, if_false]
    exact Ev.now _
end Go.Proofs.YtennmjbdmglebaaGreatDoor.R
end

section
/-! Rf: what the laws draw: big integers. -/
set_option autoImplicit false
set_option linter.unusedSimpArgs false
set_option linter.unusedVariables false
namespace Go.Proofs.YtennmjbdmglebaaGreatDoor.R
open Go.Rf
theorem trimD {l : List Int} (hr : InR l) (hl : l.length ≤ 1000000) : ∃ N : Nat, (digs N).length ≤ l.length ∧ Ev (fun k => F98 k l) ((digs N, ()), ((), ())) := by
  refine ⟨(VI l).toNat, digs_len_le ?_, l1Trim_ev hr hl⟩
  have h1 := VI_lt hr
  have h2 := VI_nonneg hr
  have h3 : ((10000 ^ l.length : Nat) : Int) = 10000 ^ l.length := Int.natCast_pow ..
  omega
theorem byte_at {s : ByteArray} {i : Nat} (h : i < s.size) : s[i]? = some s[i] := by
  exact getElem?_pos s i h
theorem fig_at {s : ByteArray} (hs : Fig s) {i : Nat} (h : i < s.size) : 48 ≤ s[i].toNat ∧ s[i].toNat ≤ 57 := by
  refine hs _ ?_
  show s.data[i] ∈ s.data.toList
  rw [← Array.getElem_toList]
  exact List.getElem_mem _
theorem fig_extract {s : ByteArray} (hs : Fig s) (n : Nat) : Fig (s.extract 0 n) := by
  intro b hb
  rw [ByteArray.data_extract, Array.toList_extract] at hb
  exact hs b (List.mem_of_mem_drop (List.mem_of_mem_take hb))
theorem figVal {u : UInt8} (h : 48 ≤ u.toNat ∧ u.toNat ≤ 57) : IntKind.i64.wrap (IntKind.u8.wrap ((u.toNat : Int) - 48)) = ((u.toNat - 48 : Nat) : Int) := by
  rw [u8_small (by omega) (by omega), wrap64 (by omega) (by omega)]
  omega
theorem ffC : ∀ (m : Nat) (s : ByteArray) (x3 : List Int), s.size ≤ m → Fig s → InR x3 → x3.length + s.size ≤ 1000 → ∃ N : Nat, (digs N).length ≤ 1000 ∧ Ev (fun k => F82c2 k s x3) ((digs N, ()), ((), ())) := by
  intro m
  induction m using Nat.strongRecOn with
  | _ m ih =>
    intro s x3 hm hs hx hl
    by_cases h0 : s.size = 0
    · obtain ⟨N, hN1, h1⟩ := trimD hx (by omega)
      refine ⟨N, by omega, Ev.step 1 (fun k => F82c2_eq k _ _) ?_⟩
      simp only [h0, show decide (((0 : Nat) : Int) > 0) = false from by decide, Bool.false_eq_true, if_false]
      exact Ev.bind h1 (Ev.now _)
    · have hp : decide ((s.size : Int) > 0) = true := decide_eq_true (by omega)
      have key : ∀ f : Nat, f < s.size → s.size ≤ f + 4 → ∃ N : Nat, (digs N).length ≤ 1000 ∧ Ev (fun k => F82c6 k s x3 (f : Int)) ((digs N, ()), ((), ())) := by
        intro f hf hf4
        have hsz : (s.extract 0 f).size = f := by simp; omega
        have hN : ∀ d : Nat, d ≤ 9999 → ∃ N : Nat, (digs N).length ≤ 1000 ∧ Ev (fun k => F82c2 k (s.extract 0 f) (x3 ++ [(d : Int)])) ((digs N, ()), ((), ())) := fun d hd =>
          ih f (by omega) (s.extract 0 f) (x3 ++ [(d : Int)]) (by omega) (fig_extract hs f) (inrSnoc hx (by omega)) (by simp; omega)
        -- which limb it is
        have hd : ∃ d : Nat, d ≤ 9999 ∧ ∀ R, (Ev (fun k => if (decide (x3.length + [(d : Int)].length ≤ 17592186044416)) = true then if (decide (0 ≤ (f : Int)) && decide ((f : Int) ≤ (s.size : Int))) = true then F82c2 k (s.extract 0 ((f : Int)).toNat) (x3 ++ [(d : Int)]) else none else none) R) → Ev (fun k => F82c6 k s x3 (f : Int)) R := by
          have walk : ∀ (m i d : Nat), i + m = s.size → f ≤ i → d < 10 ^ (i - f) → ∃ d' : Nat, d' ≤ 9999 ∧ ∀ R, (Ev (fun k => if (decide (x3.length + [(d' : Int)].length ≤ 17592186044416)) = true then if (decide (0 ≤ (f : Int)) && decide ((f : Int) ≤ (s.size : Int))) = true then F82c2 k (s.extract 0 ((f : Int)).toNat) (x3 ++ [(d' : Int)]) else none else none) R) → Ev (fun k => F82c8 k s x3 (f : Int) (d : Int) (i : Int)) R := by
            intro m
            induction m with
            | zero =>
              intro i d hi hfi hd
              have : 10 ^ (i - f) ≤ 10 ^ 4 := Nat.pow_le_pow_right (by omega) (by omega)
              refine ⟨d, by omega, fun R hR => Ev.step 1 (fun k => F82c8_eq k _ _ _ _ _) ?_⟩
              simp only [lt_false (show s.size ≤ i by omega), Bool.false_eq_true, if_false]
              exact hR
            | succ m ihm =>
              intro i d hi hfi hd
              have hlt : i < s.size := by omega
              have hfa := fig_at hs hlt
              have h4 : 10 ^ (i - f) ≤ 10 ^ 3 := Nat.pow_le_pow_right (by omega) (by omega)
              have e1 : IntKind.i64.wrap ((d : Int) * 10) = ((d * 10 : Nat) : Int) := by rw [wrap64 (by omega) (by omega)]; omega
              have e2 : IntKind.i64.wrap (((d * 10 : Nat) : Int) + ((s[i].toNat - 48 : Nat) : Int)) = ((d * 10 + (s[i].toNat - 48) : Nat) : Int) := by rw [wrap64 (by omega) (by omega)]; omega
              obtain ⟨d', h1, h2⟩ := ihm (i + 1) (d * 10 + (s[i].toNat - 48)) (by omega) (by omega) (by
                rw [show i + 1 - f = (i - f) + 1 by omega, Nat.pow_succ]
                omega)
              refine ⟨d', h1, fun R hR => Ev.step 1 (fun k => F82c8_eq k _ _ _ _ _) ?_⟩
              simp only [lt_true hlt, ge0, if_true, Int.toNat_natCast, byte_at hlt, Option.bind_some, figVal hfa, e1, e2, wrap_succ (show i < 9223372036854775807 by omega)]
              exact h2 R hR
          obtain ⟨d, h1, h2⟩ := walk (s.size - f) f 0 (by omega) (Nat.le_refl _) (by rw [Nat.sub_self]; decide)
          exact ⟨d, h1, fun R hR => Ev.step 1 (fun k => F82c6_eq k _ _ _) (h2 R hR)⟩
        obtain ⟨d, hd1, hd2⟩ := hd
        obtain ⟨N, hN1, hN⟩ := hN d hd1
        refine ⟨N, hN1, hd2 _ ?_⟩
        simp only [decide_eq_true (show x3.length + [(d : Int)].length ≤ 17592186044416 by simp; omega), if_true, ge0, le_true (Nat.le_of_lt hf), Bool.and_self, Int.toNat_natCast]
        exact hN
      have e4 : IntKind.i64.wrap ((s.size : Int) - 4) = (s.size : Int) - 4 := wrap64 (by omega) (by omega)
      by_cases h4 : s.size < 4
      · obtain ⟨N, hN1, hN⟩ := key 0 (by omega) (by omega)
        refine ⟨N, hN1, Ev.step 1 (fun k => F82c2_eq k _ _) ?_⟩
        simp only [hp, if_true, e4, decide_eq_true (show (s.size : Int) - 4 < 0 by omega)]
        exact hN
      · obtain ⟨N, hN1, hN⟩ := key (s.size - 4) (by omega) (by omega)
        refine ⟨N, hN1, Ev.step 1 (fun k => F82c2_eq k _ _) ?_⟩
        simp only [hp, if_true, e4, decide_eq_false (show ¬ (s.size : Int) - 4 < 0 by omega), Bool.false_eq_true, if_false]
        rw [show (s.size : Int) - 4 = ((s.size - 4 : Nat) : Int) by omega]
        exact hN
theorem ff_ev {s : ByteArray} (hs : Fig s) (hl : s.size ≤ 900) : ∃ N : Nat, (digs N).length ≤ 1000 ∧ Ev (fun k => F82 k s) ((digs N, ()), ((), ())) := by
  obtain ⟨N, h1, h⟩ := ffC s.size s [] (Nat.le_refl _) hs InR.nil (by simp; omega)
  exact ⟨N, h1, Ev.step 2 (fun k => F82_eq k _) h⟩
/-- a big integer in order, out of its number -/
theorem l1Big_any (neg : Bool) (N : Nat) (hl : (digs N).length ≤ 1000) : ∃ (z : Int) (ok : Bool), z.natAbs < 10000 ^ 16 ∧ Ev (fun k => F81 k neg (digs N)) (((decide (z < 0), digs z.natAbs, ()), ok, ()), ((), (), ())) := by
  have ht := l1Trim_ev (digs_InR N) (by omega)
  rw [VI_digs, Int.toNat_natCast] at ht
  by_cases h16 : (digs N).length > 16
  · refine ⟨0, false, by decide, Ev.step 2 (fun k => F81_eq k _ _) (Ev.bind ht ?_)⟩
    simp only [decide_eq_true (show ((digs N).length : Int) > 16 by omega), if_true]
    rw [show (0 : Int).natAbs = 0 from rfl, digs_zero]
    exact Ev.now _
  · have hN : N < 10000 ^ 16 := by
      have h1 := VI_lt (digs_InR N)
      rw [VI_digs] at h1
      have h2 : N < 10000 ^ (digs N).length := by
        have : ((N : Nat) : Int) < ((10000 ^ (digs N).length : Nat) : Int) := by rw [Int.natCast_pow]; exact h1
        omega
      have h3 : 10000 ^ (digs N).length ≤ 10000 ^ 16 := Nat.pow_le_pow_right (by omega) (by omega)
      omega
    refine ⟨sg neg N, true, by rw [sg_abs]; exact hN, Ev.step 2 (fun k => F81_eq k _ _) (Ev.bind ht ?_)⟩
    rw [sg_abs]
    simp only [decide_eq_false (show ¬ ((digs N).length : Int) > 16 by omega), Bool.false_eq_true, if_false, len_gt]
    cases neg with
    | true =>
      have e : decide (sg true N < 0) = decide (N ≠ 0) := by
        unfold sg
        simp only [if_true]
        congr 1
        exact propext ⟨fun h => by omega, fun h => by omega⟩
      simp only [if_true, e]
      exact Ev.now _
    | false =>
      have e : decide (sg false N < 0) = false := by unfold sg; simp
      simp only [Bool.false_eq_true, if_false, e]
      exact Ev.now _
/-! ### the reference's number of a whole number -/
theorem tmod_abs (x : Int) : (x.tmod 10000 < 0 → 0 - x.tmod 10000 = ((x.natAbs % 10000 : Nat) : Int)) ∧ (¬ x.tmod 10000 < 0 → x.tmod 10000 = ((x.natAbs % 10000 : Nat) : Int)) ∧ (x.tdiv 10000).natAbs = x.natAbs / 10000 ∧ -10000 < x.tmod 10000 ∧ x.tmod 10000 < 10000 := by
  rcases Int.natAbs_eq x with h | h
  · have h1 : x.tmod 10000 = ((x.natAbs % 10000 : Nat) : Int) := by
      rw [Int.tmod_eq_emod_of_nonneg (by omega)]; omega
    have h2 : x.tdiv 10000 = ((x.natAbs / 10000 : Nat) : Int) := by
      rw [Int.tdiv_eq_ediv_of_nonneg (by omega)]; omega
    rw [h1, h2]
    omega
  · have h1 : x.tmod 10000 = -((x.natAbs % 10000 : Nat) : Int) := by
      conv => lhs; rw [h]
      rw [Int.neg_tmod, Int.tmod_eq_emod_of_nonneg (by omega)]; omega
    have h2 : x.tdiv 10000 = -((x.natAbs / 10000 : Nat) : Int) := by
      conv => lhs; rw [h]
      rw [Int.neg_tdiv, Int.tdiv_eq_ediv_of_nonneg (by omega)]; omega
    rw [h1, h2]
    omega
theorem bofC {n : Int} {b : Bool} {l : List Int} : ∀ (m : Nat) (x3 : List Int) (x4 : Int), x4.natAbs ≤ m → m < 10000 ^ 4 → x3.length + (digs x4.natAbs).length ≤ 1000 →
    Ev (fun k => F55c3 k n b l x3 x4) (((decide (n < 0), x3 ++ digs x4.natAbs, ()), ()), ((), ())) := by
  intro m
  induction m using Nat.strongRecOn with
  | _ m ih =>
    intro x3 x4 hm hm2 hl
    have h44 : (10000 : Nat) ^ 4 = 10000000000000000 := by decide
    by_cases h0 : x4 = 0
    · subst h0
      refine Ev.step 1 (fun k => F55c3_eq k _ _ _ _ _) ?_
      simp only [bne_self_eq_false, Bool.false_eq_true, if_false]
      rw [show (0 : Int).natAbs = 0 from rfl, digs_zero, List.append_nil]
      exact Ev.now _
    · have hn : x4.natAbs ≠ 0 := by omega
      obtain ⟨t1, t2, t3, t4, t5⟩ := tmod_abs x4
      have e : digs x4.natAbs = ((x4.natAbs % 10000 : Nat) : Int) :: digs (x4.tdiv 10000).natAbs := by rw [digs_pos hn, t3]
      rw [e, List.length_cons] at hl
      have hw : IntKind.i64.wrap (x4.tdiv 10000) = x4.tdiv 10000 := wrap64 (by omega) (by omega)
      have next : Ev (fun k => F55c7 k n b l x3 x4 ((x4.natAbs % 10000 : Nat) : Int)) (((decide (n < 0), x3 ++ digs x4.natAbs, ()), ()), ((), ())) := by
        have h1 := ih (x4.tdiv 10000).natAbs (by omega) (x3 ++ [((x4.natAbs % 10000 : Nat) : Int)]) (x4.tdiv 10000) (Nat.le_refl _) (by omega) (by rw [List.length_append, List.length_singleton]; omega)
        rw [List.append_assoc, List.singleton_append, ← e] at h1
        refine Ev.step 1 (fun k => F55c7_eq k _ _ _ _ _ _) ?_
        simp only [decide_eq_true (show x3.length + [((x4.natAbs % 10000 : Nat) : Int)].length ≤ 17592186044416 by simp; omega), if_true, hw]
        exact h1
      refine Ev.step 1 (fun k => F55c3_eq k _ _ _ _ _) ?_
      simp only [show (x4 != 0) = true from by simpa using h0, if_true]
      by_cases hneg : x4.tmod 10000 < 0
      · have hw2 : IntKind.i64.wrap (0 - x4.tmod 10000) = ((x4.natAbs % 10000 : Nat) : Int) := by
          rw [wrap64 (by omega) (by omega)]
          exact t1 hneg
        simp only [decide_eq_true hneg, if_true, hw2]
        exact next
      · simp only [decide_eq_false hneg, Bool.false_eq_true, if_false]
        rw [t2 hneg]
        exact next
theorem BigOf_sp {n : Int} (h : n.natAbs < 10000 ^ 4) : Ev (fun k => F55 k n) (((decide (n < 0), digs n.natAbs, ()), ()), ((), ())) := by
  have := bofC (n := n) (b := false) (l := []) n.natAbs [] n (Nat.le_refl _) h (by have := digs_len_le h; simp; omega)
  rw [List.nil_append] at this
  exact Ev.step 2 (fun k => F55_eq k _) this
/-! ### drawn -/
section
variable {bs : List Int} (hb : Rd bs)
include hb
theorem bigC9 {p : Nat} (hp : p + 10 ≤ 1000000) {b : Bool} {l : List Int} {s : ByteArray} (hs : Fig s) (h64 : s.size ≤ 64) : ∃ (z : Int) (q : Nat), z.natAbs < 10000 ^ 16 ∧ q ≤ p + 10 ∧ Ev (fun k => F51c9 k bs (p : Int) b l s) (((decide (z < 0), digs z.natAbs, ()), ()), ((bs, (q : Int), ()), (), ())) := by
  obtain ⟨v, _, h1⟩ := pick_ev hb (show p ≤ 1000000000 by omega) 3
  obtain ⟨N, hN, h2⟩ := ff_ev hs (by omega)
  obtain ⟨z, ok, hz, h3⟩ := l1Big_any (v == 0) N hN
  refine ⟨z, p + 1, hz, by omega, Ev.step 1 (fun k => F51c9_eq k _ _ _ _ _) (Ev.bind h1 (Ev.bind h2 (Ev.bind h3 (Ev.now _))))⟩
theorem bigC7 {p : Nat} (hp : p + 20 ≤ 1000000) {b : Bool} {l : List Int} {n : Int} (h0 : 0 ≤ n) (hn : n ≤ 64) {s : ByteArray} (hs : Fig s) (h64 : s.size ≤ 64) : ∃ (z : Int) (q : Nat), z.natAbs < 10000 ^ 16 ∧ q ≤ p + 20 ∧ Ev (fun k => F51c7 k bs (p : Int) b l n s) (((decide (z < 0), digs z.natAbs, ()), ()), ((bs, (q : Int), ()), (), ())) := by
  obtain ⟨v, _, h1⟩ := pick_ev hb (show p ≤ 1000000000 by omega) 6
  cases hv : (v == (0 : Int)) with
  | true =>
    obtain ⟨t, ht, ht2, h2⟩ := l1Many_ev (a := ⟨#[57]⟩) (fig1 (d := 9) (by omega)) rfl (n := n) (by omega) (by omega)
    obtain ⟨z, q, hz, hq, h3⟩ := bigC9 (p := p + 1) hb (by omega) (b := b) (l := l) ht (by omega)
    refine ⟨z, q, hz, by omega, Ev.step 1 (fun k => F51c7_eq k _ _ _ _ _ _) (Ev.bind h1 ?_)⟩
    simp only [hv, if_true]
    exact Ev.bind h2 h3
  | false =>
    obtain ⟨z, q, hz, hq, h3⟩ := bigC9 (p := p + 1) hb (by omega) (b := b) (l := l) hs h64
    refine ⟨z, q, hz, by omega, Ev.step 1 (fun k => F51c7_eq k _ _ _ _ _ _) (Ev.bind h1 ?_)⟩
    simp only [hv, Bool.false_eq_true, if_false]
    exact h3
theorem bigC4 {p : Nat} (hp : p + 300 ≤ 1000000) {b : Bool} {l : List Int} {n : Int} (h0 : 0 ≤ n) (hn : n ≤ 64) : ∃ (z : Int) (q : Nat), z.natAbs < 10000 ^ 16 ∧ q ≤ p + 300 ∧ Ev (fun k => F51c4 k bs (p : Int) b l n) (((decide (z < 0), digs z.natAbs, ()), ()), ((bs, (q : Int), ()), (), ())) := by
  obtain ⟨t, q, hq, ht, ht64, h1⟩ := figs_ev hb h0 hn (p := p) (by omega)
  obtain ⟨v, _, h2⟩ := pick_ev hb (show q ≤ 1000000000 by omega) 6
  cases hv : (v == (0 : Int)) with
  | true =>
    have e : IntKind.i64.wrap (n - 1) = n - 1 := wrap64 (by omega) (by omega)
    obtain ⟨u, hu, hu2, h3⟩ := l1Many_ev (a := ⟨#[48]⟩) (fig1 (d := 0) (by omega)) rfl (n := n - 1) (by omega) (by omega)
    have hsz : ((⟨#[49]⟩ : ByteArray) ++ u).size = 1 + u.size := by rw [size_app]; rfl
    obtain ⟨z, q2, hz, hq2, h4⟩ := bigC7 (p := q + 1) hb (by omega) (b := b) (l := l) h0 hn (s := (⟨#[49]⟩ : ByteArray) ++ u) (Fig.app (fig1 (d := 1) (by omega)) hu) (by rw [hsz]; omega)
    refine ⟨z, q2, hz, by omega, Ev.step 1 (fun k => F51c4_eq k _ _ _ _ _) (Ev.bind h1 (Ev.bind h2 ?_))⟩
    have hble : Nat.ble ((⟨#[49]⟩ : ByteArray).size + u.size) 9223372036854775807 = true := Nat.ble_eq_true_of_le (by show 1 + u.size ≤ _; omega)
    simp only [hv, if_true, e]
    refine Ev.bind h3 ?_
    simp only [hble, if_true]
    exact h4
  | false =>
    obtain ⟨z, q2, hz, hq2, h4⟩ := bigC7 (p := q + 1) hb (by omega) (b := b) (l := l) h0 hn ht ht64
    refine ⟨z, q2, hz, by omega, Ev.step 1 (fun k => F51c4_eq k _ _ _ _ _) (Ev.bind h1 (Ev.bind h2 ?_))⟩
    simp only [hv, Bool.false_eq_true, if_false]
    exact h4
theorem l14Big_ev {p : Nat} (hp : p + 400 ≤ 1000000) {most : Int} (hm : 1 ≤ most) (hm2 : most ≤ 64) : ∃ (z : Int) (q : Nat), z.natAbs < 10000 ^ 16 ∧ q ≤ p + 400 ∧ Ev (fun k => F51 k bs (p : Int) most) (((decide (z < 0), digs z.natAbs, ()), ()), ((bs, (q : Int), ()), (), ())) := by
  obtain ⟨v, ⟨a0, a1, _⟩, h1⟩ := pick_ev hb (show p ≤ 1000000000 by omega) 64
  have a1 := a1 (by omega)
  have e1 : IntKind.i64.wrap (1 + v) = 1 + v := wrap64 (by omega) (by omega)
  obtain ⟨n, hn, h2⟩ := one_ev hb (show p + 1 ≤ 1000000000 by omega) [0, 1, 1, 2, 3, 4, 5, 8, 9, 12, 17, 29, 30, 31, 33, 63, 64, 1 + v] (by simp)
  have hn2 : 0 ≤ n ∧ n ≤ 64 := by
    simp only [List.mem_cons, List.not_mem_nil, or_false] at hn
    omega
  by_cases hg : n > most
  · obtain ⟨u, ⟨b0, b1, _⟩, h3⟩ := pick_ev hb (show p + 1 + 1 ≤ 1000000000 by omega) most
    have b1 := b1 hm
    have e2 : IntKind.i64.wrap (1 + u) = 1 + u := wrap64 (by omega) (by omega)
    obtain ⟨z, q, hz, hq, h4⟩ := bigC4 (p := p + 1 + 1 + 1) hb (by omega) (b := false) (l := []) (n := 1 + u) (by omega) (by omega)
    refine ⟨z, q, hz, by omega, Ev.step 2 (fun k => F51_eq k _ _ _) (Ev.bind h1 ?_)⟩
    simp only [e1]
    refine Ev.bind h2 ?_
    simp only [decide_eq_true hg, if_true]
    refine Ev.bind h3 ?_
    simp only [e2]
    exact h4
  · obtain ⟨z, q, hz, hq, h4⟩ := bigC4 (p := p + 1 + 1) hb (by omega) (b := false) (l := []) (n := n) (by omega) (by omega)
    refine ⟨z, q, hz, by omega, Ev.step 2 (fun k => F51_eq k _ _ _) (Ev.bind h1 ?_)⟩
    simp only [e1]
    refine Ev.bind h2 ?_
    simp only [decide_eq_false hg, Bool.false_eq_true, if_false]
    exact h4
end
end Go.Proofs.YtennmjbdmglebaaGreatDoor.R
end

section
/-! Rf: what the laws draw: decimals. -/
set_option autoImplicit false
set_option linter.unusedSimpArgs false
set_option linter.unusedVariables false
namespace Go.Proofs.YtennmjbdmglebaaGreatDoor.R
open Go.Rf
theorem Rd.of {code : List Int} (h : code.length ≤ 2000) (w : ∀ y ∈ code, 0 ≤ y ∧ y ≤ 255) : Rd code := ⟨h, w⟩
theorem open_ev (code : List Int) (w : ∀ y ∈ code, 0 ≤ y ∧ y ≤ 255) : ∃ bs, Rd bs ∧ Ev (fun k => F29 k code) (((bs, 0, ()), ()), ((), ())) := by
  by_cases h : code.length > 2000
  · refine ⟨code.take 2000, ⟨by simp; omega, fun y hy => w y (List.mem_of_mem_take hy)⟩, Ev.step 2 (fun k => F29_eq k _) ?_⟩
    simp only [decide_eq_true (show (code.length : Int) > 2000 by omega), if_true, show decide ((0 : Int) ≤ 2000) = true from rfl, decide_eq_true (show (2000 : Int) ≤ code.length by omega), Bool.and_self, slices0]
    exact Ev.step 1 (fun k => F29c3_eq k _) (Ev.now _)
  · refine ⟨code, ⟨by omega, w⟩, Ev.step 2 (fun k => F29_eq k _) ?_⟩
    simp only [decide_eq_false (show ¬ (code.length : Int) > 2000 by omega), Bool.false_eq_true, if_false]
    exact Ev.step 1 (fun k => F29c3_eq k _) (Ev.now _)
theorem z16 {z : Int} (h : z.natAbs < 10000 ^ 16) : (digs z.natAbs).length ≤ 16 := digs_len_le h
theorem anyC10 {bs : List Int} {p : Nat} {b1 b2 : Bool} {l1 : List Int} : ∀ (m : Nat) (l : List Int), l.length + m = max 17 l.length → l.length ≤ 17 → ∃ l' : List Int, l'.length ≤ 20 ∧ Ev (fun k => F62c10 k bs (p : Int) b1 l1 b2 l) (((b2, l', ()), ()), ((bs, (p : Int), ()), ())) := by
  intro m
  induction m with
  | zero =>
    intro l hm h17
    refine ⟨l, by omega, Ev.step 1 (fun k => F62c10_eq k _ _ _ _ _ _) ?_⟩
    simp only [decide_eq_false (show ¬ (l.length : Int) < 17 by omega), Bool.false_eq_true, if_false]
    exact Ev.step 1 (fun k => F62c12_eq k _ _ _ _ _ _) (Ev.now _)
  | succ m ih =>
    intro l hm h17
    have hl : (l ++ [(1 : Int)]).length = l.length + 1 := by simp
    obtain ⟨l', h1, h2⟩ := ih (l ++ [1]) (by omega) (by omega)
    refine ⟨l', h1, Ev.step 1 (fun k => F62c10_eq k _ _ _ _ _ _) ?_⟩
    simp only [decide_eq_true (show (l.length : Int) < 17 by omega), if_true, decide_eq_true (show l.length + [(1 : Int)].length ≤ 17592186044416 by simp; omega)]
    exact h2
section
variable {bs : List Int} (hb : Rd bs)
include hb
theorem anyBig_ev {p : Nat} (hp : p + 500 ≤ 1000000) : ∃ (n : Bool) (l : List Int) (q : Nat), l.length ≤ 100 ∧ q ≤ p + 500 ∧ Ev (fun k => F62 k bs (p : Int)) (((n, l, ()), ()), ((bs, (q : Int), ()), ())) := by
  obtain ⟨z, q, hz, hq, h1⟩ := l14Big_ev hb (p := p) (by omega) (most := 64) (by omega) (by omega)
  have hz := z16 hz
  obtain ⟨v, ⟨a0, a1, _⟩, h2⟩ := pick_ev hb (show q ≤ 1000000000 by omega) 30
  have st : ∀ {r}, Ev (fun k => if (v == (0 : Int)) = true then if (decide ((digs z.natAbs).length + [(0 : Int)].length ≤ 17592186044416)) = true then F62c12 k bs ((q + 1 : Nat) : Int) false ([] : List Int) (decide (z < 0)) (digs z.natAbs ++ [(0 : Int)]) else none else if (v == (1 : Int)) = true then (F31 k bs ((q + 1 : Nat) : Int) [(10000 : Int), (-1 : Int)]).bind fun r3 => if (decide ((digs z.natAbs).length + [r3.1.1].length ≤ 17592186044416)) = true then F62c12 k r3.2.1.1 r3.2.1.2.1 false ([] : List Int) (decide (z < 0)) (digs z.natAbs ++ [r3.1.1]) else none else if (v == (2 : Int)) = true then some (((true, ([] : List Int), ()), ()), ((bs, ((q + 1 : Nat) : Int), ()), ())) else if (v == (3 : Int)) = true then F62c10 k bs ((q + 1 : Nat) : Int) false ([] : List Int) (decide (z < 0)) (digs z.natAbs) else F62c12 k bs ((q + 1 : Nat) : Int) false ([] : List Int) (decide (z < 0)) (digs z.natAbs)) r → Ev (fun k => F62 k bs (p : Int)) r := fun h => Ev.step 2 (fun k => F62_eq k _ _) (Ev.bind h1 (Ev.bind h2 h))
  have c12 : ∀ {q' : Nat} {l : List Int}, Ev (fun k => F62c12 k bs (q' : Int) false ([] : List Int) (decide (z < 0)) l) (((decide (z < 0), l, ()), ()), ((bs, (q' : Int), ()), ())) := fun {q' l} => Ev.step 1 (fun k => F62c12_eq k _ _ _ _ _ _) (Ev.now _)
  cases c0 : (v == (0 : Int)) with
  | true =>
    refine ⟨decide (z < 0), digs z.natAbs ++ [0], q + 1, by simp; omega, by omega, st ?_⟩
    simp only [c0, if_true, decide_eq_true (show (digs z.natAbs).length + [(0 : Int)].length ≤ 17592186044416 by simp; omega)]
    exact c12
  | false =>
    cases c1 : (v == (1 : Int)) with
    | true =>
      obtain ⟨u, _, h3⟩ := one_ev hb (show q + 1 ≤ 1000000000 by omega) [10000, -1] (by simp)
      refine ⟨decide (z < 0), digs z.natAbs ++ [u], q + 1 + 1, by simp; omega, by omega, st ?_⟩
      simp only [c0, c1, Bool.false_eq_true, if_false, if_true]
      refine Ev.bind h3 ?_
      simp only [decide_eq_true (show (digs z.natAbs).length + [u].length ≤ 17592186044416 by simp; omega), if_true]
      exact c12
    | false =>
      cases c2 : (v == (2 : Int)) with
      | true =>
        refine ⟨true, [], q + 1, by simp, by omega, st ?_⟩
        simp only [c0, c1, c2, Bool.false_eq_true, if_false, if_true]
        exact Ev.now _
      | false =>
        cases c3 : (v == (3 : Int)) with
        | true =>
          obtain ⟨l', hl', h3⟩ := anyC10 (bs := bs) (p := q + 1) (b1 := false) (b2 := decide (z < 0)) (l1 := []) (17 - (digs z.natAbs).length) (digs z.natAbs) (by omega) (by omega)
          refine ⟨decide (z < 0), l', q + 1, by omega, by omega, st ?_⟩
          simp only [c0, c1, c2, c3, Bool.false_eq_true, if_false, if_true]
          exact h3
        | false =>
          refine ⟨decide (z < 0), digs z.natAbs, q + 1, by omega, by omega, st ?_⟩
          simp only [c0, c1, c2, c3, Bool.false_eq_true, if_false]
          exact c12
/-- a decimal in order, but for its figures -/
theorem l14Dec_ev {p : Nat} (hp : p + 600 ≤ 1000000) : ∃ (z : Int) (s q : Nat), z.natAbs < 10000 ^ 16 ∧ s ≤ 12 ∧ q ≤ p + 600 ∧ Ev (fun k => F61 k bs (p : Int)) (((decide (z < 0), digs z.natAbs, (s : Int), ()), ()), ((bs, (q : Int), ()), ())) := by
  obtain ⟨v, ⟨a0, a1, _⟩, h1⟩ := pick_ev hb (show p ≤ 1000000000 by omega) 13
  have a1 := a1 (by omega)
  obtain ⟨s, hs, h2⟩ := one_ev hb (show p + 1 ≤ 1000000000 by omega) [0, 0, 1, 2, 2, 3, 6, 12, v] (by simp)
  have hs2 : 0 ≤ s ∧ s ≤ 12 := by
    simp only [List.mem_cons, List.not_mem_nil, or_false] at hs
    omega
  obtain ⟨t, rfl⟩ : ∃ t : Nat, s = (t : Int) := ⟨s.toNat, by omega⟩
  obtain ⟨u, ⟨b0, b1, _⟩, h3⟩ := pick_ev hb (show p + 1 + 1 ≤ 1000000000 by omega) 5
  have h16 : (10000 : Nat) ^ 4 ≤ 10000 ^ 16 := Nat.pow_le_pow_right (by omega) (by omega)
  have h44 : (10000 : Nat) ^ 4 = 10000000000000000 := by decide
  cases c0 : (u == (0 : Int)) with
  | true =>
    obtain ⟨x, ⟨d0, d1, _⟩, h4⟩ := pick_ev hb (show p + 1 + 1 + 1 ≤ 1000000000 by omega) 200
    have d1 := d1 (by omega)
    have e : IntKind.i64.wrap (x - 100) = x - 100 := wrap64 (by omega) (by omega)
    have h5 := BigOf_sp (n := x - 100) (by omega)
    refine ⟨x - 100, t, p + 1 + 1 + 1 + 1, by omega, by omega, by omega, Ev.step 2 (fun k => F61_eq k _ _) (Ev.bind h1 (Ev.bind h2 (Ev.bind h3 ?_)))⟩
    simp only [c0, if_true]
    refine Ev.bind h4 ?_
    simp only [e]
    exact Ev.bind h5 (Ev.now _)
  | false =>
    cases c1 : (u == (1 : Int)) with
    | true =>
      obtain ⟨x, hx, h4⟩ := one_ev hb (show p + 1 + 1 + 1 ≤ 1000000000 by omega) [5, 15, 25, 35, 45, -5, -15, -25, 50, 150, 250, 499, 500, 501, -500, 1500, 2500, -2500, 1000, 20] (by simp)
      have hx2 : -2500 ≤ x ∧ x ≤ 2500 := by
        simp only [List.mem_cons, List.not_mem_nil, or_false] at hx
        omega
      have h5 := BigOf_sp (n := x) (by omega)
      refine ⟨x, t, p + 1 + 1 + 1 + 1, by omega, by omega, by omega, Ev.step 2 (fun k => F61_eq k _ _) (Ev.bind h1 (Ev.bind h2 (Ev.bind h3 ?_)))⟩
      simp only [c0, c1, Bool.false_eq_true, if_false, if_true]
      exact Ev.bind h4 (Ev.bind h5 (Ev.now _))
    | false =>
      cases c2 : (u == (2 : Int)) with
      | true =>
        obtain ⟨z, q, hz, hq, h4⟩ := l14Big_ev hb (p := p + 1 + 1 + 1) (by omega) (most := 8) (by omega) (by omega)
        refine ⟨z, t, q, hz, by omega, by omega, Ev.step 2 (fun k => F61_eq k _ _) (Ev.bind h1 (Ev.bind h2 (Ev.bind h3 ?_)))⟩
        simp only [c0, c1, c2, Bool.false_eq_true, if_false, if_true]
        exact Ev.bind h4 (Ev.now _)
      | false =>
        obtain ⟨z, q, hz, hq, h4⟩ := l14Big_ev hb (p := p + 1 + 1 + 1) (by omega) (most := 30) (by omega) (by omega)
        refine ⟨z, t, q, hz, by omega, by omega, Ev.step 2 (fun k => F61_eq k _ _) (Ev.bind h1 (Ev.bind h2 (Ev.bind h3 ?_)))⟩
        simp only [c0, c1, c2, Bool.false_eq_true, if_false]
        exact Ev.bind h4 (Ev.now _)
theorem anyDec_ev {p : Nat} (hp : p + 1300 ≤ 1000000) : ∃ (n : Bool) (l : List Int) (s : Int) (q : Nat), l.length ≤ 100 ∧ q ≤ p + 1300 ∧ Ev (fun k => F30 k bs (p : Int)) (((n, l, s, ()), ()), ((bs, (q : Int), ()), ())) := by
  obtain ⟨z, s, q, hz, hs, hq, h1⟩ := l14Dec_ev hb (p := p) (by omega)
  have hz16 := z16 hz
  obtain ⟨v, _, h2⟩ := pick_ev hb (show q ≤ 1000000000 by omega) 30
  have c9 : ∀ {q' : Nat} {n : Bool} {l : List Int} {s : Int}, Ev (fun k => F30c9 k bs (q' : Int) false ([] : List Int) (0 : Int) n l s) (((n, l, s, ()), ()), ((bs, (q' : Int), ()), ())) := fun {q' n l s} => Ev.step 1 (fun k => F30c9_eq k _ _ _ _ _ _ _ _) (Ev.now _)
  cases c0 : (v == (0 : Int)) with
  | true =>
    obtain ⟨u, _, h3⟩ := one_ev hb (show q + 1 ≤ 1000000000 by omega) [-1, 13, 4611686018427387904] (by simp)
    refine ⟨decide (z < 0), digs z.natAbs, u, q + 1 + 1, by omega, by omega, Ev.step 2 (fun k => F30_eq k _ _) (Ev.bind h1 (Ev.bind h2 ?_))⟩
    simp only [c0, if_true]
    exact Ev.bind h3 c9
  | false =>
    cases c1 : (v == (1 : Int)) with
    | true =>
      obtain ⟨y, q2, hy, hq2, h3⟩ := l14Big_ev hb (p := q + 1) (by omega) (most := 31) (by omega) (by omega)
      have hy := z16 hy
      refine ⟨decide (y < 0), digs y.natAbs, (s : Int), q2, by omega, by omega, Ev.step 2 (fun k => F30_eq k _ _) (Ev.bind h1 (Ev.bind h2 ?_))⟩
      simp only [c0, c1, Bool.false_eq_true, if_false, if_true]
      exact Ev.bind h3 c9
    | false =>
      cases c2 : (v == (2 : Int)) with
      | true =>
        obtain ⟨n, l, q2, hl, hq2, h3⟩ := anyBig_ev hb (p := q + 1) (by omega)
        refine ⟨n, l, (s : Int), q2, by omega, by omega, Ev.step 2 (fun k => F30_eq k _ _) (Ev.bind h1 (Ev.bind h2 ?_))⟩
        simp only [c0, c1, c2, Bool.false_eq_true, if_false, if_true]
        exact Ev.bind h3 c9
      | false =>
        refine ⟨decide (z < 0), digs z.natAbs, (s : Int), q + 1, by omega, by omega, Ev.step 2 (fun k => F30_eq k _ _) (Ev.bind h1 (Ev.bind h2 ?_))⟩
        simp only [c0, c1, c2, Bool.false_eq_true, if_false]
        exact c9
end
theorem not_ev (n : Bool) (l : List Int) (s : Int) : ∃ n' : Bool, Ev (fun k => F83 k n l s) (((n', l, s, ()), ()), (((), (), (), ()), ())) := by
  cases n with
  | true => exact ⟨false, Ev.step 2 (fun k => F83_eq k _ _ _) (Ev.now _)⟩
  | false => exact ⟨_, Ev.step 2 (fun k => F83_eq k _ _ _) (Ev.now _)⟩
theorem trim_sp {n : Bool} {l : List Int} {s0 : Int} : ∀ (s V : Nat), s ≤ 12 → (digs V).length ≤ 16 → ((digs (trimN V s).1).length ≤ 16 ∧
    Ev (fun k => F84c3 k n l s0 false ([] : List Int) (0 : Int) (digs V) (s : Int)) (((n, digs (trimN V s).1, ((trimN V s).2 : Int), ()), ()), (((), (), (), ()), ()))) := by
  have ht : ∀ {V : Nat}, (digs V).length ≤ 16 → Ev (fun k => F98 k (digs V)) ((digs V, ()), ((), ())) := fun {V} h => by
    have := l1Trim_ev (digs_InR V) (by omega)
    rwa [VI_digs, Int.toNat_natCast] at this
  intro s
  induction s with
  | zero =>
    intro V _ hl
    refine ⟨hl, Ev.step 1 (fun k => F84c3_eq k _ _ _ _ _ _ _ _) ?_⟩
    simp only [show decide (((0 : Nat) : Int) > 0) = false from by decide, Bool.false_eq_true, if_false]
    exact Ev.bind (ht hl) (Ev.now _)
  | succ s ih =>
    intro V hs hl
    have c : decide (((s + 1 : Nat) : Int) > 0) = true := decide_eq_true (by omega)
    have d2 := l1DivAbs_ev (digs_InR V) (b := [10]) (InR.one (by omega)) (by omega) (by simp) (VI_digs V) (B := 10) (VI_one 10) (by omega)
    have e1 : IntKind.i64.wrap (((s + 1 : Nat) : Int) - 1) = (s : Int) := by rw [wrap64 (by omega) (by omega)]; omega
    by_cases h : V % 10 = 0
    · obtain ⟨i1, i3⟩ := ih (V / 10) (by omega) (div10_len hl)
      have et : trimN V (s + 1) = trimN (V / 10) s := by rw [trimN, if_pos h]
      rw [et]
      refine ⟨i1, Ev.step 1 (fun k => F84c3_eq k _ _ _ _ _ _ _ _) ?_⟩
      simp only [c, if_true]
      refine Ev.bind d2 ?_
      simp only [len_gt, h, ne_eq, not_true_eq_false, decide_false, Bool.false_eq_true, if_false, e1]
      exact i3
    · have et : trimN V (s + 1) = (V, s + 1) := by rw [trimN, if_neg h]
      rw [et]
      refine ⟨hl, Ev.step 1 (fun k => F84c3_eq k _ _ _ _ _ _ _ _) ?_⟩
      simp only [c, if_true]
      refine Ev.bind d2 ?_
      simp only [len_gt, h, ne_eq, not_false_eq_true, decide_true, if_true]
      exact Ev.bind (ht hl) (Ev.now _)
theorem two_ev (code : List Int) (w : ∀ y ∈ code, 0 ≤ y ∧ y ≤ 255) : ∃ (n1 : Bool) (l1 : List Int) (s1 : Int) (n2 : Bool) (l2 : List Int) (s2 : Int), l1.length ≤ 100 ∧ l2.length ≤ 100 ∧ Ev (fun k => F52 k code) (((n1, l1, s1, ()), (n2, l2, s2, ()), ()), ((), ())) := by
  obtain ⟨bs, hb, h1⟩ := open_ev code w
  obtain ⟨n1, l1, s1, q1, hl1, hq1, h2⟩ := anyDec_ev hb (p := 0) (by omega)
  obtain ⟨n2, l2, s2, q2, hl2, hq2, h3⟩ := anyDec_ev hb (p := q1) (by omega)
  obtain ⟨v, _, h4⟩ := pick_ev hb (show q2 ≤ 1000000000 by omega) 6
  have c11 : ∀ {n1 n2 : Bool} {l1 l2 : List Int} {s1 s2 : Int}, Ev (fun k => F52c11 k false ([] : List Int) (0 : Int) false ([] : List Int) (0 : Int) n1 l1 s1 n2 l2 s2) (((n1, l1, s1, ()), (n2, l2, s2, ()), ()), ((), ())) := fun {n1 n2 l1 l2 s1 s2} => Ev.step 1 (fun k => F52c11_eq k _ _ _ _ _ _ _ _ _ _ _ _) (Ev.now _)
  cases c0 : (v == (0 : Int)) with
  | true =>
    obtain ⟨n', h5⟩ := not_ev n1 l1 s1
    refine ⟨n1, l1, s1, n', l1, s1, hl1, hl1, Ev.step 2 (fun k => F52_eq k _) (Ev.bind h1 (Ev.bind h2 (Ev.bind h3 (Ev.bind h4 ?_))))⟩
    simp only [c0, if_true]
    exact Ev.bind h5 c11
  | false =>
    cases c1 : (v == (1 : Int)) with
    | true =>
      obtain ⟨z, s, q, hz, hs, hq, h5⟩ := l14Dec_ev hb (p := q2 + 1) (by omega)
      have hz16 := z16 hz
      have ea : s + (12 - s) = 12 := by omega
      have a2 := l2At_ev (neg := decide (z < 0)) (l := digs z.natAbs) (s := s) (m := 12 - s) (digs_InR _) hz16 (by omega)
      rw [ea, num_digs] at a2
      have k1 := digs_len_le (at_lt (V := z.natAbs) hz (show 12 - s ≤ 24 by omega))
      have hmk := l2Make_ev (neg := decide (z < 0)) (n := z.natAbs * 10 ^ (12 - s)) (s := 12) (by omega)
      have h6 : Ev (fun k => F43 k (decide (z < 0)) (digs z.natAbs) (s : Int) (12 : Int) (2 : Int)) (made (decide (z < 0)) (z.natAbs * 10 ^ (12 - s)) 12, (((), (), (), ()), (), (), ())) := by
        refine Ev.step 2 (fun k => F43_eq k _ _ _ _ _) ?_
        simp only [decide_eq_true (show (12 : Int) ≥ (s : Int) by omega), if_true]
        exact Ev.bind a2 (Ev.bind hmk (Ev.now _))
      rw [show (12 : Int) = ((12 : Nat) : Int) from rfl, made_mk] at h6
      obtain ⟨Z, hZ⟩ : ∃ Z, Z = sg (decide (z < 0)) (z.natAbs * 10 ^ (12 - s)) := ⟨_, rfl⟩
      rw [← hZ] at h6
      unfold mk at h6
      split at h6
      · rename_i h30
        obtain ⟨i1, i3⟩ := trim_sp (n := decide (Z < 0)) (l := digs Z.natAbs) (s0 := ((12 : Nat) : Int)) 12 Z.natAbs (by omega) (len16 h30)
        refine ⟨decide (Z < 0), digs (trimN Z.natAbs 12).1, ((trimN Z.natAbs 12).2 : Int), decide (Z < 0), digs Z.natAbs, 12, ?_, ?_, Ev.step 2 (fun k => F52_eq k _) (Ev.bind h1 (Ev.bind h2 (Ev.bind h3 (Ev.bind h4 ?_))))⟩
        rotate_left 2
        · simp only [c0, c1, Bool.false_eq_true, if_false, if_true]
          refine Ev.bind h5 (Ev.bind h6 ?_)
          simp only [D, beq_self_eq_true, if_true]
          exact Ev.bind (Ev.step 2 (fun k => F84_eq k _ _ _) i3) (Ev.now _)
        · exact Nat.le_trans i1 (by omega)
        · exact Nat.le_trans (len16 h30) (by omega)
      · refine ⟨n1, l1, s1, n2, l2, s2, hl1, hl2, Ev.step 2 (fun k => F52_eq k _) (Ev.bind h1 (Ev.bind h2 (Ev.bind h3 (Ev.bind h4 ?_))))⟩
        simp only [c0, c1, Bool.false_eq_true, if_false, if_true]
        refine Ev.bind h5 (Ev.bind h6 ?_)
        simp only [show ((3 : Int) == 0) = false from rfl, Bool.false_eq_true, if_false]
        exact c11
    | false =>
      refine ⟨n1, l1, s1, n2, l2, s2, hl1, hl2, Ev.step 2 (fun k => F52_eq k _) (Ev.bind h1 (Ev.bind h2 (Ev.bind h3 (Ev.bind h4 ?_))))⟩
      simp only [c0, c1, Bool.false_eq_true, if_false]
      exact c11
end Go.Proofs.YtennmjbdmglebaaGreatDoor.R
end

section
/-! Rf: decimals in order, as whole numbers with a scale: what the functions answer. -/
set_option autoImplicit false
set_option linter.unusedSimpArgs false
set_option linter.unusedVariables false
namespace Go.Proofs.YtennmjbdmglebaaGreatDoor.R
open Go.Rf
theorem jtIntsI {a b : List Int} (h : a.length = b.length) (hl : a.length ≤ 1000000) : ∀ (m i : Nat), i + m = a.length → (∀ j, j < i → a.getD j 0 = b.getD j 0) → Ev (fun k => F76c4 k a b (i : Int)) ((decide (a = b), ()), ((), (), ())) := by
  intro m
  induction m with
  | zero =>
    intro i hi hj
    have e : a = b := ext_getD h (fun j hjl => hj j (by omega))
    refine Ev.step 1 (fun k => F76c4_eq k _ _ _) ?_
    simp only [lt_false (show a.length ≤ i by omega), Bool.false_eq_true, if_false, decide_eq_true e]
    exact Ev.now _
  | succ m ih =>
    intro i hi hj
    have hlt : i < a.length := by omega
    refine Ev.step 1 (fun k => F76c4_eq k _ _ _) ?_
    simp only [lt_true hlt, ge0, if_true, Int.toNat_natCast, getI_of hlt, getI_of (show i < b.length by omega), Option.bind_some]
    by_cases e : a.getD i 0 = b.getD i 0
    · simp only [e, bne_self_eq_false, Bool.false_eq_true, if_false, wrap_succ (show i < 9223372036854775807 by omega)]
      refine ih (i + 1) (by omega) (fun j hj' => ?_)
      rcases Nat.lt_or_ge j i with h1 | h1
      · exact hj j h1
      · rw [show j = i by omega]; exact e
    · have hne : a ≠ b := fun h' => e (by rw [h'])
      simp only [bne_iff_ne.2 e, if_true]
      rw [decide_eq_false hne]
      exact Ev.now _
theorem jtInts_ev (a b : List Int) (hl : a.length ≤ 1000000) : Ev (fun k => F76 k a b) ((decide (a = b), ()), ((), (), ())) := by
  refine Ev.step 2 (fun k => F76_eq k _ _) ?_
  by_cases h : a.length = b.length
  · simp only [h, bne_self_eq_false, Bool.false_eq_true, if_false]
    exact jtIntsI h hl a.length 0 (by omega) (fun j hj => by omega)
  · have h2 : ((a.length : Int) != (b.length : Int)) = true := by rw [bne_iff_ne]; omega
    simp only [h2, if_true]
    rw [decide_eq_false (fun e => h (by rw [e]))]
    exact Ev.now _
/-- are two decimals written alike? -/
def alike (n1 : Bool) (l1 : List Int) (s1 : Int) (n2 : Bool) (l2 : List Int) (s2 : Int) : Bool := (s1 == s2) && ((n1 == n2) && decide (l1 = l2))
theorem jtDec_ev (n1 : Bool) (l1 : List Int) (s1 : Int) (n2 : Bool) (l2 : List Int) (s2 : Int) (hl : l1.length ≤ 1000000) : Ev (fun k => F13 k n1 l1 s1 n2 l2 s2) ((alike n1 l1 s1 n2 l2 s2, ()), (((), (), (), ()), ((), (), (), ()), ())) := by
  have hbig : Ev (fun k => F44 k n1 l1 n2 l2) (((n1 == n2) && decide (l1 = l2), ()), (((), (), ()), ((), (), ()), ())) := by
    refine Ev.step 2 (fun k => F44_eq k _ _ _ _) ?_
    cases h : (n1 == n2) with
    | true =>
      simp only [if_true, Bool.true_and]
      exact Ev.bind (jtInts_ev l1 l2 hl) (Ev.now _)
    | false =>
      simp only [Bool.false_eq_true, if_false, Bool.false_and]
      exact Ev.now _
  refine Ev.step 2 (fun k => F13_eq k _ _ _ _ _ _) ?_
  unfold alike
  cases h : (s1 == s2) with
  | true =>
    simp only [if_true, Bool.true_and]
    exact Ev.bind hbig (Ev.now _)
  | false =>
    simp only [Bool.false_eq_true, if_false, Bool.false_and]
    exact Ev.now _
theorem alike_self (n : Bool) (l : List Int) (s : Int) : alike n l s n l s = true := by simp [alike]
theorem jtDec_same (n : Bool) (l : List Int) (s : Int) (hl : l.length ≤ 1000000) : Ev (fun k => F13 k n l s n l s) ((true, ()), (((), (), (), ()), ((), (), (), ()), ())) := by
  have := jtDec_ev n l s n l s hl
  rwa [alike_self] at this
theorem digs_inj {a b : Nat} (h : digs a = digs b) : a = b := by
  have h1 := VI_digs a
  have h2 := VI_digs b
  rw [h] at h1
  omega
theorem alike_D {z1 z2 : Int} {s1 s2 : Nat} : alike (decide (z1 < 0)) (digs z1.natAbs) (s1 : Int) (decide (z2 < 0)) (digs z2.natAbs) (s2 : Int) = decide (z1 = z2 ∧ s1 = s2) := by
  unfold alike
  by_cases h : z1 = z2 ∧ s1 = s2
  · obtain ⟨rfl, rfl⟩ := h
    simp
  · rw [decide_eq_false h]
    by_cases hs : s1 = s2
    · have hz : z1 ≠ z2 := fun e => h ⟨e, hs⟩
      have : ¬ (decide (z1 < 0) = decide (z2 < 0) ∧ digs z1.natAbs = digs z2.natAbs) := by
        rintro ⟨h1, h2⟩
        have h3 := digs_inj h2
        have h4 : (z1 < 0) ↔ (z2 < 0) := by simpa using h1
        omega
      by_cases hd : decide (z1 < 0) = decide (z2 < 0)
      · simp only [hd, beq_self_eq_true, Bool.true_and, decide_eq_false (fun e => this ⟨hd, e⟩), Bool.and_false]
      · rw [beq_eq_false_iff_ne.2 hd, Bool.false_and, Bool.and_false]
    · have : ((s1 : Int) == (s2 : Int)) = false := by rw [beq_eq_false_iff_ne]; omega
      rw [this, Bool.false_and]
section
variable (n1 : Bool) (l1 : List Int) (s1 : Int) (n2 : Bool) (l2 : List Int) (s2 : Int)
theorem DecAdd_im (h1 : l1.length ≤ 1048576) (h2 : l2.length ≤ 1048576) (c1 : decOk n1 l1 s1 = true) (c2 : decOk n2 l2 s2 = true) : Ev (fun k => F17 k n1 l1 s1 n2 l2 s2) (dSum n1 l1 s1 n2 l2 s2 n2, (((), (), (), ()), ((), (), (), ()), ())) := by
  unfold dSum
  rw [if_pos ⟨c1, c2⟩]
  obtain ⟨b1, _, t1, rfl, ht1⟩ := decOk_of c1
  obtain ⟨b2, _, t2, rfl, ht2⟩ := decOk_of c2
  obtain ⟨a16, ra, ta, _⟩ := bOk_of b1
  obtain ⟨b16, rb, tb, _⟩ := bOk_of b2
  have em : (if (t2 : Int) > (t1 : Int) then (t2 : Int) else (t1 : Int)) = ((max t1 t2 : Nat) : Int) := by split <;> omega
  have e1 : max t1 t2 = t1 + (max t1 t2 - t1) := by omega
  have e2 : max t1 t2 = t2 + (max t1 t2 - t2) := by omega
  have k1 := at_len (num_lt ra a16) (show max t1 t2 - t1 ≤ 24 by omega)
  have k2 := at_len (num_lt rb b16) (show max t1 t2 - t2 ≤ 24 by omega)
  have k3 := sum_len (na := n1) (nb := n2) (at_lt (num_lt ra a16) (show max t1 t2 - t1 ≤ 24 by omega)) (at_lt (num_lt rb b16) (show max t1 t2 - t2 ≤ 24 by omega))
  have a1 := at_ev (neg := n1) (s := t1) (m := max t1 t2 - t1) ra a16 (by omega)
  have a2 := at_ev (neg := n2) (s := t2) (m := max t1 t2 - t2) rb b16 (by omega)
  rw [← e1] at a1
  rw [← e2] at a2
  simp only [Int.toNat_natCast]
  refine Ev.step 2 (fun k => F17_eq k _ _ _ _ _ _) (Ev.bind (decs_ev n1 l1 _ n2 l2 _ h1 h2) ?_)
  simp only [c1, c2, Bool.and_self, Bool.not_true, Bool.false_eq_true, if_false, em]
  exact Ev.bind a1 (Ev.bind a2 (Ev.bind (sAdd_ev (by omega) (by omega)) (Ev.bind (dec_ev (Nat.le_trans k3 (by omega))) (Ev.now _))))
theorem DecSub_im (h1 : l1.length ≤ 1048576) (h2 : l2.length ≤ 1048576) (c1 : decOk n1 l1 s1 = true) (c2 : decOk n2 l2 s2 = true) : Ev (fun k => F15 k n1 l1 s1 n2 l2 s2) (dSum n1 l1 s1 n2 l2 s2 (!n2), (((), (), (), ()), ((), (), (), ()), ())) := by
  unfold dSum
  rw [if_pos ⟨c1, c2⟩]
  obtain ⟨b1, _, t1, rfl, ht1⟩ := decOk_of c1
  obtain ⟨b2, _, t2, rfl, ht2⟩ := decOk_of c2
  obtain ⟨a16, ra, ta, _⟩ := bOk_of b1
  obtain ⟨b16, rb, tb, _⟩ := bOk_of b2
  have em : (if (t2 : Int) > (t1 : Int) then (t2 : Int) else (t1 : Int)) = ((max t1 t2 : Nat) : Int) := by split <;> omega
  have e1 : max t1 t2 = t1 + (max t1 t2 - t1) := by omega
  have e2 : max t1 t2 = t2 + (max t1 t2 - t2) := by omega
  have k1 := at_len (num_lt ra a16) (show max t1 t2 - t1 ≤ 24 by omega)
  have k2 := at_len (num_lt rb b16) (show max t1 t2 - t2 ≤ 24 by omega)
  have k3 := sum_len (na := n1) (nb := !n2) (at_lt (num_lt ra a16) (show max t1 t2 - t1 ≤ 24 by omega)) (at_lt (num_lt rb b16) (show max t1 t2 - t2 ≤ 24 by omega))
  have a1 := at_ev (neg := n1) (s := t1) (m := max t1 t2 - t1) ra a16 (by omega)
  have a2 := at_ev (neg := n2) (s := t2) (m := max t1 t2 - t2) rb b16 (by omega)
  rw [← e1] at a1
  rw [← e2] at a2
  simp only [Int.toNat_natCast]
  refine Ev.step 2 (fun k => F15_eq k _ _ _ _ _ _) (Ev.bind (decs_ev n1 l1 _ n2 l2 _ h1 h2) ?_)
  simp only [c1, c2, Bool.and_self, Bool.not_true, Bool.false_eq_true, if_false, em]
  exact Ev.bind a1 (Ev.bind a2 (Ev.bind (Ev.step 2 (fun k => F48_eq k _ _) (Ev.now _)) (Ev.bind (sAdd_ev (by omega) (by omega)) (Ev.bind (dec_ev (Nat.le_trans k3 (by omega))) (Ev.now _)))))
end
theorem rounds_ev' (sc mode : Int) : Ev (fun k => F34 k sc mode) ((within sc 0 12 && within mode 1 7, ()), ((), (), ())) := by
  refine Ev.step 2 (fun k => F34_eq k _ _) (Ev.bind (in_ev sc 0 12) ?_)
  cases within sc 0 12 with
  | true => exact Ev.bind (in_ev mode 1 7) (Ev.now _)
  | false => exact Ev.now _
theorem DecRound_im (n : Bool) (l : List Int) (s sc mode : Int) (h : l.length ≤ 1048576) (c1 : decOk n l s = true) (c2 : within sc 0 12 = true) (c3 : within mode 1 7 = true) : Ev (fun k => F11 k n l s sc mode) (dRound n l s sc mode, (((), (), (), ()), (), (), ())) := by
  unfold dRound
  rw [if_pos ⟨c1, c2, c3⟩]
  obtain ⟨b1, _, t, rfl, ht⟩ := decOk_of c1
  obtain ⟨a16, ra, ta, hz⟩ := bOk_of b1
  have hd := digs_num ra ta
  have hnum := num_lt ra a16
  have w2 : 0 ≤ sc ∧ sc ≤ 12 := by simpa [within] using c2
  have w3 : 1 ≤ mode ∧ mode ≤ 7 := by simpa [within] using c3
  obtain ⟨u, rfl⟩ : ∃ u : Nat, sc = (u : Int) := ⟨sc.toNat, by omega⟩
  simp only [Int.toNat_natCast]
  refine Ev.step 2 (fun k => F11_eq k _ _ _ _ _) (Ev.bind (DecOk_ev n l t h) ?_)
  simp only [c1, Bool.not_true, Bool.false_eq_true, if_false]
  refine Ev.bind (rounds_ev' _ _) ?_
  simp only [c2, c3, Bool.and_self, Bool.not_true, Bool.false_eq_true, if_false]
  by_cases hge : t ≤ u
  · have cge : decide ((u : Int) ≥ (t : Int)) = true := decide_eq_true (by omega)
    have eu : t + (u - t) = u := by omega
    have a1 := at_ev (neg := n) (s := t) (m := u - t) ra a16 (by omega)
    rw [eu] at a1
    have k1 := pow_len hnum (show u - t ≤ 24 by omega)
    simp only [cge, if_true, if_pos hge]
    exact Ev.bind a1 (Ev.bind (dec_ev (by omega)) (Ev.now _))
  · have cge : decide ((u : Int) ≥ (t : Int)) = false := decide_eq_false (by omega)
    have e1 : IntKind.i64.wrap ((t : Int) - (u : Int)) = ((t - u : Nat) : Int) := by rw [wrap64 (by omega) (by omega)]; omega
    have lt1 := ten_len (t - u)
    obtain ⟨q, q0, q1, q2, q3⟩ := quotient_both n (V := num l) (D := 10 ^ (t - u)) mode w3.1 w3.2 (Nat.pow_pos (by omega)) (by rw [hd]; omega) (by omega)
    rw [hd] at q2
    have lq : (digs q).length ≤ 17 := by rw [q0]; exact rquo_len hnum
    simp only [cge, Bool.false_eq_true, if_false, e1, if_neg hge, ← q0]
    exact Ev.bind (signed_ev n l) (Ev.bind (ten_ev (t - u) (by omega)) (Ev.bind q2 (Ev.bind (dec_ev (by omega)) (Ev.now _))))
section
variable {z1 z2 : Int} {s1 s2 : Nat} (h1 : z1.natAbs < 10 ^ 30) (h2 : z2.natAbs < 10 ^ 30) (t1 : s1 ≤ 12) (t2 : s2 ≤ 12)
include h1 h2 t1 t2
theorem cmpD :
    Ev (fun k => F14 k (decide (z1 < 0)) (digs z1.natAbs) (s1 : Int) (decide (z2 < 0)) (digs z2.natAbs) (s2 : Int)) ((cmpZ (z1 * 10 ^ (max s1 s2 - s1)) (z2 * 10 ^ (max s1 s2 - s2)), ()), (((), (), (), ()), ((), (), (), ()), ())) := by
  have o1 : (digs z1.natAbs).length ≤ 1048576 := by have := len16 h1; omega
  have o2 : (digs z2.natAbs).length ≤ 1048576 := by have := len16 h2; omega
  refine Ev.step 2 (fun k => F14_eq k _ _ _ _ _ _) (Ev.bind (decs_ev _ _ _ _ _ _ o1 o2) ?_)
  rw [decOk_D h1 t1, decOk_D h2 t2, ← dCmp_D]
  simp only [Bool.and_self, Bool.not_true, Bool.false_eq_true, if_false]
  exact Ev.bind (cmpD_ev (bOk_digs z1 (lt30_16 h1)) (bOk_digs z2 (lt30_16 h2)) t1 t2) (Ev.now _)
theorem addD :
    Ev (fun k => F17 k (decide (z1 < 0)) (digs z1.natAbs) (s1 : Int) (decide (z2 < 0)) (digs z2.natAbs) (s2 : Int)) (mk (z1 * 10 ^ (max s1 s2 - s1) + z2 * 10 ^ (max s1 s2 - s2)) (max s1 s2), (((), (), (), ()), ((), (), (), ()), ())) := by
  have o1 : (digs z1.natAbs).length ≤ 1048576 := by have := len16 h1; omega
  have o2 : (digs z2.natAbs).length ≤ 1048576 := by have := len16 h2; omega
  have hm := DecAdd_im _ _ _ _ _ _ o1 o2 (decOk_D h1 t1) (decOk_D h2 t2)
  rw [dSum_D h1 h2 t1 t2] at hm
  exact hm
theorem subD :
    Ev (fun k => F15 k (decide (z1 < 0)) (digs z1.natAbs) (s1 : Int) (decide (z2 < 0)) (digs z2.natAbs) (s2 : Int)) (mk (z1 * 10 ^ (max s1 s2 - s1) - z2 * 10 ^ (max s1 s2 - s2)) (max s1 s2), (((), (), (), ()), ((), (), (), ()), ())) := by
  have o1 : (digs z1.natAbs).length ≤ 1048576 := by have := len16 h1; omega
  have o2 : (digs z2.natAbs).length ≤ 1048576 := by have := len16 h2; omega
  have hm := DecSub_im _ _ _ _ _ _ o1 o2 (decOk_D h1 t1) (decOk_D h2 t2)
  rw [dSub_D h1 h2 t1 t2] at hm
  exact hm
theorem mulD :
    Ev (fun k => F19 k (decide (z1 < 0)) (digs z1.natAbs) (s1 : Int) (decide (z2 < 0)) (digs z2.natAbs) (s2 : Int)) (if s1 + s2 > 12 then mk (rdiv 7 (z1 * z2) (10 ^ (s1 + s2 - 12))) 12 else mk (z1 * z2) (s1 + s2), (((), (), (), ()), ((), (), (), ()), ())) := by
  have o1 : (digs z1.natAbs).length ≤ 1048576 := by have := len16 h1; omega
  have o2 : (digs z2.natAbs).length ≤ 1048576 := by have := len16 h2; omega
  obtain ⟨m, e, _, hm, _⟩ := DecMul_both _ _ _ _ _ _ o1 o2
  rw [e, dMul_D h1 h2 t1 t2] at hm
  exact hm
end
theorem roundD {z : Int} {s sc : Nat} {mode : Int} (h : z.natAbs < 10 ^ 30) (t : s ≤ 12) (hc : sc ≤ 12) (hm : 1 ≤ mode ∧ mode ≤ 7) :
    Ev (fun k => F11 k (decide (z < 0)) (digs z.natAbs) (s : Int) (sc : Int) mode) (if s ≤ sc then mk (z * 10 ^ (sc - s)) sc else mk (rdiv mode z (10 ^ (s - sc))) sc, (((), (), (), ()), (), (), ())) := by
  have o1 : (digs z.natAbs).length ≤ 1048576 := by have := len16 h; omega
  have hm' := DecRound_im _ _ _ (sc : Int) mode o1 (decOk_D h t) (by unfold within; simp; omega) (by unfold within; simp; omega)
  rw [dRound_D h t hc hm] at hm'
  exact hm'
theorem okD {z : Int} {s : Nat} (h : z.natAbs < 10 ^ 30) (t : s ≤ 12) : Ev (fun k => F33 k (decide (z < 0)) (digs z.natAbs) (s : Int)) ((true, ()), (((), (), (), ()), ())) := by
  have o1 : (digs z.natAbs).length ≤ 1048576 := by have := len16 h; omega
  have := DecOk_ev (decide (z < 0)) (digs z.natAbs) (s : Int) o1
  rwa [decOk_D h t] at this
theorem mk_fine {z : Int} {s : Nat} (h : z.natAbs < 10 ^ 30) : mk z s = (D z s, 0, ()) := if_pos h
theorem mk_over {z : Int} {s : Nat} (h : ¬ z.natAbs < 10 ^ 30) : mk z s = ((false, [], 0, ()), 3, ()) := if_neg h
theorem u8_of {y : Int} (h : wfT (.int .u8) y) : 0 ≤ y ∧ y ≤ 255 := by
  have h : (Lit.int .u8 y).wf = true := h
  simp [Lit.wf, IntKind.min, IntKind.max, IntKind.bits, IntKind.signed] at h
  omega
theorem cmpZ_eq (x : Int) : cmpZ x x = 0 := by unfold cmpZ; rw [if_neg (by omega), if_pos rfl]
theorem cmpZ_zero {x y : Int} : cmpZ x y = 0 ↔ x = y := by
  unfold cmpZ
  constructor
  · intro h
    split at h
    · omega
    · split at h
      · assumption
      · omega
  · rintro rfl
    rw [if_neg (by omega), if_pos rfl]
theorem cmpZ_swap (x y : Int) : cmpZ y x = -cmpZ x y := by
  unfold cmpZ
  (repeat' split) <;> omega
theorem cmpZ_range (x y : Int) : cmpZ x y = -1 ∨ cmpZ x y = 0 ∨ cmpZ x y = 1 := by
  unfold cmpZ
  (repeat' split) <;> simp
end Go.Proofs.YtennmjbdmglebaaGreatDoor.R
end

section
/-! Rf: what the laws draw: decimals with a scale and a mode; two decimals for a product. -/
set_option autoImplicit false
set_option linter.unusedSimpArgs false
set_option linter.unusedVariables false
namespace Go.Proofs.YtennmjbdmglebaaGreatDoor.R
open Go.Rf
theorem drawRound_ev (code : List Int) (w : ∀ y ∈ code, 0 ≤ y ∧ y ≤ 255) : ∃ (n : Bool) (l : List Int) (s sc mode : Int), l.length ≤ 100 ∧ Ev (fun k => F10 k code) (((n, l, s, ()), sc, mode, ()), ((), ())) := by
  obtain ⟨bs, hb, h1⟩ := open_ev code w
  obtain ⟨n, l, s, q, hl, hq, h2⟩ := anyDec_ev hb (p := 0) (by omega)
  obtain ⟨v, ⟨a0, a1, _⟩, h3⟩ := pick_ev hb (show q ≤ 1000000000 by omega) 15
  have a1 := a1 (by omega)
  have e : IntKind.i64.wrap (v - 1) = v - 1 := wrap64 (by omega) (by omega)
  obtain ⟨u, _, h4⟩ := one_ev hb (show q + 1 ≤ 1000000000 by omega) [0, 1, 2, 6, 12, v - 1] (by simp)
  obtain ⟨m, _, h5⟩ := pick_ev hb (show q + 1 + 1 ≤ 1000000000 by omega) 9
  refine ⟨n, l, s, u, m, hl, Ev.step 2 (fun k => F10_eq k _) (Ev.bind h1 (Ev.bind h2 (Ev.bind h3 ?_)))⟩
  simp only [e]
  exact Ev.bind h4 (Ev.bind h5 (Ev.now _))
theorem drawMul_ev (code : List Int) (w : ∀ y ∈ code, 0 ≤ y ∧ y ≤ 255) : ∃ (n1 : Bool) (l1 : List Int) (s1 : Int) (n2 : Bool) (l2 : List Int) (s2 : Int), l1.length ≤ 100 ∧ l2.length ≤ 100 ∧ Ev (fun k => F18 k code) (((n1, l1, s1, ()), (n2, l2, s2, ()), ()), ((), ())) := by
  obtain ⟨bs, hb, h1⟩ := open_ev code w
  obtain ⟨v, _, h2⟩ := pick_ev hb (p := 0) (by omega) 2
  cases c0 : (v == (0 : Int)) with
  | true =>
    obtain ⟨z1, q1, hz1, hq1, h3⟩ := l14Big_ev hb (p := 0 + 1) (by omega) (most := 15) (by omega) (by omega)
    obtain ⟨u1, _, h4⟩ := pick_ev hb (show q1 ≤ 1000000000 by omega) 13
    obtain ⟨z2, q2, hz2, hq2, h5⟩ := l14Big_ev hb (p := q1 + 1) (by omega) (most := 15) (by omega) (by omega)
    obtain ⟨u2, _, h6⟩ := pick_ev hb (show q2 ≤ 1000000000 by omega) 13
    have y1 := z16 hz1
    have y2 := z16 hz2
    refine ⟨decide (z1 < 0), digs z1.natAbs, u1, decide (z2 < 0), digs z2.natAbs, u2, by omega, by omega, Ev.step 2 (fun k => F18_eq k _) (Ev.bind h1 (Ev.bind h2 ?_))⟩
    simp only [c0, if_true]
    exact Ev.bind h3 (Ev.bind h4 (Ev.bind h5 (Ev.bind h6 (Ev.now _))))
  | false =>
    obtain ⟨n1, l1, s1, n2, l2, s2, hl1, hl2, h3⟩ := two_ev code w
    refine ⟨n1, l1, s1, n2, l2, s2, hl1, hl2, Ev.step 2 (fun k => F18_eq k _) (Ev.bind h1 (Ev.bind h2 ?_))⟩
    simp only [c0, Bool.false_eq_true, if_false]
    exact Ev.bind h3 (Ev.now _)
theorem bigOne_ev : Ev (fun k => F16 k 1) (((decide ((1 : Int) < 0), digs (1 : Int).natAbs, ()), ()), ((), ())) := by
  have h1 := limbsOf_ev (n := 1) (by omega)
  have h2 := big_ev (neg := decide ((1 : Int) < 0)) (n := 1) (by rw [digs_small (by omega) (by omega)]; simp)
  have e : IntKind.u64.wrap 1 = 1 := by decide
  refine Ev.step 2 (fun k => F16_eq k _) ?_
  simp only [show decide ((1 : Int) < 0) = false from rfl, Bool.false_eq_true, if_false, e]
  exact Ev.step 1 (fun k => F16c4_eq k _ _ _ _) (Ev.bind h1 (Ev.bind h2 (Ev.now _)))
/-! ### quotients -/
theorem sg_scale (z : Int) {e : Nat} (he : 0 < e) : decide (z * e < 0) = decide (z < 0) ∧ (z * e).natAbs = z.natAbs * e := by
  constructor
  · rw [decide_eq_decide]
    constructor
    · intro h
      refine Decidable.by_contra fun hn => ?_
      have := Int.mul_nonneg (show 0 ≤ z by omega) (show (0 : Int) ≤ e by omega)
      omega
    · intro h
      exact Int.mul_neg_of_neg_of_pos h (by omega)
  · rw [Int.natAbs_mul, Int.natAbs_natCast]
theorem rdiv_exact (m z : Int) {d : Nat} (hd : 0 < d) : rdiv m (z * d) d = z := by
  obtain ⟨h1, h2⟩ := sg_scale z hd
  unfold rdiv rquo
  rw [h1, h2, Nat.mul_mod_left, if_pos rfl, Nat.mul_div_cancel _ hd, sg_D]
theorem cmpI_mul {a b e : Nat} (he : 0 < e) : cmpI (a * e) (b * e) = cmpI a b := by
  unfold cmpI
  by_cases h1 : a < b
  · rw [if_pos (Nat.mul_lt_mul_of_pos_right h1 he), if_pos h1]
  · by_cases h2 : a = b
    · subst h2
      rw [if_neg (by omega), if_pos rfl, if_neg (by omega), if_pos rfl]
    · have h3 : b * e < a * e := Nat.mul_lt_mul_of_pos_right (by omega) he
      rw [if_neg (by omega), if_neg (by omega), if_neg h1, if_neg h2]
theorem rdiv_scale (m z : Int) {d e : Nat} (he : 0 < e) : rdiv m (z * e) (d * e) = rdiv m z d := by
  obtain ⟨h1, h2⟩ := sg_scale z he
  unfold rdiv rquo
  rw [h1, h2, Nat.mul_mod_mul_right, Nat.mul_div_mul_right _ _ he, ← Nat.add_mul, cmpI_mul he]
  have : (z.natAbs % d * e = 0) ↔ (z.natAbs % d = 0) := by
    rw [Nat.mul_eq_zero]
    constructor
    · rintro (h | h)
      · exact h
      · omega
    · exact .inl
  simp only [this]
def cdiv (V d : Nat) : Nat := if V % d = 0 then V / d else V / d + 1
theorem cdiv_eq {V d : Nat} (hd : 0 < d) : cdiv V d = (V + d - 1) / d := by
  unfold cdiv
  have h1 := Nat.div_add_mod V d
  have h2 := Nat.mod_lt V hd
  split
  · rename_i h
    have : V + d - 1 = d * (V / d) + (d - 1) := by omega
    rw [this, Nat.mul_add_div hd, Nat.div_eq_of_lt (show d - 1 < d by omega), Nat.add_zero]
  · rename_i h
    have : V + d - 1 = d * (V / d + 1) + (V % d - 1) := by rw [Nat.mul_add]; omega
    rw [this, Nat.mul_add_div hd, Nat.div_eq_of_lt (show V % d - 1 < d by omega), Nat.add_zero]
theorem cdiv_cdiv {V d1 d2 : Nat} (h1 : 0 < d1) (h2 : 0 < d2) : cdiv (cdiv V d1) d2 = cdiv V (d1 * d2) := by
  rw [cdiv_eq h1, cdiv_eq h2, cdiv_eq (Nat.mul_pos h1 h2)]
  have : (V + d1 - 1) / d1 + d2 - 1 = (V + d1 * d2 - 1) / d1 := by
    have e : V + d1 * d2 - 1 = (V + d1 - 1) + d1 * (d2 - 1) := by
      obtain ⟨e2, rfl⟩ : ∃ e2, d2 = e2 + 1 := ⟨d2 - 1, by omega⟩
      have e3 : d1 * (e2 + 1) = d1 * e2 + d1 := Nat.mul_succ ..
      have e4 : e2 + 1 - 1 = e2 := rfl
      rw [e3, e4]
      omega
    rw [e, Nat.add_mul_div_left _ _ h1]
    obtain ⟨q, hq⟩ : ∃ q, q = (V + d1 - 1) / d1 := ⟨_, rfl⟩
    rw [← hq]
    omega
  rw [this, Nat.div_div_eq_div_mul]
/-- away from nought? (modes 1 to 4) -/
def upm (m : Int) (neg : Bool) : Bool := decide (m = 1) || (decide (m = 3) && !neg) || (decide (m = 4) && neg)
theorem rquo_dir {m : Int} (h : 1 ≤ m ∧ m ≤ 4) (neg : Bool) (V d : Nat) : rquo neg V d m = if upm m neg = true then cdiv V d else V / d := by
  unfold rquo upm
  have hm : m = 1 ∨ m = 2 ∨ m = 3 ∨ m = 4 := by omega
  rcases hm with rfl | rfl | rfl | rfl
  · simp [rmore, cdiv]
  · simp [rmore]
  · cases neg <;> simp [rmore, cdiv]
  · cases neg <;> simp [rmore, cdiv]
theorem cdiv_zero (d : Nat) : cdiv 0 d = 0 := by simp [cdiv]
theorem cdiv_pos {V d : Nat} (hd : 0 < d) (hV : 0 < V) : 0 < cdiv V d := by
  unfold cdiv
  split
  · rename_i h
    refine Nat.div_pos ?_ hd
    exact Nat.le_of_dvd hV (Nat.dvd_of_mod_eq_zero h)
  · exact Nat.succ_pos _
theorem sgT {A : Nat} (h : A ≠ 0) : decide (sg true A < 0) = true := by unfold sg; simp; omega
theorem sgF (A : Nat) : decide (sg false A < 0) = false := by unfold sg; simp
theorem rdiv_rdiv {m z : Int} (h : 1 ≤ m ∧ m ≤ 4) {d1 d2 : Nat} (h1 : 0 < d1) (h2 : 0 < d2) : rdiv m (rdiv m z d1) d2 = rdiv m z (d1 * d2) := by
  unfold rdiv
  rw [sg_abs, rquo_dir h, rquo_dir h, rquo_dir h]
  by_cases hz : z < 0
  · rw [decide_eq_true hz]
    cases hu : upm m true with
    | true =>
      have hp := cdiv_pos h1 (show 0 < z.natAbs by omega)
      have hs : decide (sg true (cdiv z.natAbs d1) < 0) = true := sgT (by omega)
      simp only [if_true, hs, hu, cdiv_cdiv h1 h2]
    | false =>
      simp only [Bool.false_eq_true, if_false]
      by_cases h0 : z.natAbs / d1 = 0
      · rw [h0, ← Nat.div_div_eq_div_mul, h0]
        have : sg true 0 = 0 := rfl
        rw [this]
        simp [cdiv_zero, sg_neg_zero]
      · have hs : decide (sg true (z.natAbs / d1) < 0) = true := sgT h0
        rw [hs, hu]
        simp only [Bool.false_eq_true, if_false, Nat.div_div_eq_div_mul]
  · rw [decide_eq_false hz]
    cases hu : upm m false with
    | true =>
      have hs : decide (sg false (cdiv z.natAbs d1) < 0) = false := sgF _
      simp only [if_true, hs, hu, cdiv_cdiv h1 h2]
    | false =>
      have hs : decide (sg false (z.natAbs / d1) < 0) = false := sgF _
      simp only [Bool.false_eq_true, if_false, hs, hu, Nat.div_div_eq_div_mul]
theorem natPow (k : Nat) : ((10 ^ k : Nat) : Int) = 10 ^ k := Int.natCast_pow ..
theorem p10 (k : Nat) : 0 < 10 ^ k := Nat.pow_pos (by omega)
/-- a value rounded to a scale -/
def rz (m z : Int) (t sc : Nat) : Int := if t ≤ sc then z * 10 ^ (sc - t) else rdiv m z (10 ^ (t - sc))
theorem roundZ {z : Int} {s sc : Nat} {mode : Int} (h : z.natAbs < 10 ^ 30) (t : s ≤ 12) (hc : sc ≤ 12) (hm : 1 ≤ mode ∧ mode ≤ 7) : Ev (fun k => F11 k (decide (z < 0)) (digs z.natAbs) (s : Int) (sc : Int) mode) (mk (rz mode z s sc) sc, (((), (), (), ()), (), (), ())) := by
  have := roundD h t hc hm
  unfold rz
  split at this
  · rename_i hle; rw [if_pos hle]; exact this
  · rename_i hle; rw [if_neg hle]; exact this
theorem rz_twice {m z : Int} (h : 1 ≤ m ∧ m ≤ 4) {t sc u : Nat} (hu : u ≤ sc) : rz m (rz m z t sc) sc u = rz m z t u := by
  unfold rz
  by_cases h1 : t ≤ sc
  · rw [if_pos h1]
    by_cases h2 : sc ≤ u
    · have : u = sc := by omega
      subst this
      rw [if_pos h2, if_pos h1, Nat.sub_self, Int.pow_zero, Int.mul_one]
    · rw [if_neg h2]
      by_cases h3 : t ≤ u
      · rw [if_pos h3, show sc - t = (u - t) + (sc - u) by omega, Int.pow_add, ← Int.mul_assoc, ← natPow (sc - u), rdiv_exact _ _ (p10 _)]
      · rw [if_neg h3, show sc - u = (t - u) + (sc - t) by omega, Nat.pow_add, ← natPow (sc - t), rdiv_scale _ _ (p10 _)]
  · rw [if_neg h1]
    by_cases h2 : sc ≤ u
    · have : u = sc := by omega
      subst this
      rw [if_pos h2, if_neg h1, Nat.sub_self, Int.pow_zero, Int.mul_one]
    · rw [if_neg h2, if_neg (by omega), rdiv_rdiv h (p10 _) (p10 _), ← Nat.pow_add, show t - sc + (sc - u) = t - u by omega]
end Go.Proofs.YtennmjbdmglebaaGreatDoor.R
end

section
/-! Rf: how the ways to round lie to each other. -/
set_option autoImplicit false
set_option linter.unusedSimpArgs false
set_option linter.unusedVariables false
namespace Go.Proofs.YtennmjbdmglebaaGreatDoor.R
open Go.Rf
theorem jtD {z1 z2 : Int} {s1 s2 : Nat} (h : z1.natAbs < 10 ^ 30) : Ev (fun k => F13 k (decide (z1 < 0)) (digs z1.natAbs) (s1 : Int) (decide (z2 < 0)) (digs z2.natAbs) (s2 : Int)) ((decide (z1 = z2 ∧ s1 = s2), ()), (((), (), (), ()), ((), (), (), ()), ())) := by
  have := jtDec_ev (decide (z1 < 0)) (digs z1.natAbs) (s1 : Int) (decide (z2 < 0)) (digs z2.natAbs) (s2 : Int) (by have := len16 h; omega)
  rwa [alike_D] at this
theorem jtC {z1 z2 : Int} {c : Nat} (h : z1.natAbs < 10 ^ 30) : Ev (fun k => F13 k (decide (z1 < 0)) (digs z1.natAbs) (c : Int) (decide (z2 < 0)) (digs z2.natAbs) (c : Int)) ((decide (z1 = z2), ()), (((), (), (), ()), ((), (), (), ()), ())) := by
  have := jtD (z2 := z2) (s1 := c) (s2 := c) h
  have e : (z1 = z2 ∧ c = c) = (z1 = z2) := propext ⟨fun h => h.1, fun h => ⟨h, rfl⟩⟩
  rwa [decide_eq_decide.2 (iff_of_eq e)] at this
theorem cdiv_or (V d : Nat) : cdiv V d = V / d ∨ cdiv V d = V / d + 1 := by
  unfold cdiv
  split
  · exact .inl rfl
  · exact .inr rfl
theorem rquo_or (neg : Bool) (V d : Nat) (m : Int) : rquo neg V d m = V / d ∨ rquo neg V d m = cdiv V d := by
  unfold rquo cdiv
  split
  · exact .inl rfl
  · split
    · exact .inr rfl
    · exact .inl rfl
theorem div_le (V d : Nat) : V / d * d ≤ V := Nat.div_mul_le_self V d
theorem cdiv_ge {V d : Nat} (hd : 0 < d) : V ≤ cdiv V d * d := by
  unfold cdiv
  have h1 := Nat.div_add_mod V d
  have h2 := Nat.mod_lt V hd
  split
  · rename_i h
    rw [Nat.mul_comm]
    omega
  · rw [Nat.add_mul, Nat.mul_comm]
    omega
theorem rz_facts (m z : Int) (t c : Nat) : (rz 4 z t c * 10 ^ (max c t - c) ≤ z * 10 ^ (max c t - t)) ∧ (z * 10 ^ (max c t - t) ≤ rz 3 z t c * 10 ^ (max c t - c)) ∧ (rz 3 z t c = rz 4 z t c ∨ rz 3 z t c = rz 4 z t c + 1) ∧
    (z < 0 → rz 2 z t c = rz 3 z t c ∧ rz 1 z t c = rz 4 z t c) ∧ (¬ z < 0 → rz 2 z t c = rz 4 z t c ∧ rz 1 z t c = rz 3 z t c) ∧ (rz m z t c = rz 4 z t c ∨ rz m z t c = rz 3 z t c) := by
  unfold rz
  by_cases h : t ≤ c
  · simp only [if_pos h]
    rw [show max c t - c = 0 by omega, show max c t - t = c - t by omega, Int.pow_zero, Int.mul_one]
    refine ⟨Int.le_refl _, Int.le_refl _, ?_, ?_, ?_, ?_⟩ <;> simp
  · simp only [if_neg h]
    rw [show max c t - c = t - c by omega, show max c t - t = 0 by omega, Int.pow_zero, Int.mul_one]
    obtain ⟨d, hd⟩ : ∃ d : Nat, d = 10 ^ (t - c) := ⟨_, rfl⟩
    have hdp : 0 < d := by rw [hd]; exact p10 _
    have hP : (10 : Int) ^ (t - c) = (d : Int) := by rw [hd, natPow]
    rw [hP, ← hd]
    unfold rdiv
    rw [rquo_dir (m := 4) (by omega), rquo_dir (m := 3) (by omega), rquo_dir (m := 2) (by omega), rquo_dir (m := 1) (by omega)]
    obtain ⟨q, hq⟩ : ∃ q, q = z.natAbs / d := ⟨_, rfl⟩
    obtain ⟨g, hg⟩ : ∃ g, g = cdiv z.natAbs d := ⟨_, rfl⟩
    have h1 := div_le z.natAbs d
    have h2 := cdiv_ge (V := z.natAbs) hdp
    have h3 := cdiv_or z.natAbs d
    have h4 := rquo_or (decide (z < 0)) z.natAbs d m
    obtain ⟨x, hx⟩ : ∃ x, x = rquo (decide (z < 0)) z.natAbs d m := ⟨_, rfl⟩
    rw [← hx] at h4
    rw [← hx]
    rw [← hq, ← hg] at h3 h4
    rw [← hq] at h1
    rw [← hg] at h2
    rw [← hq, ← hg]
    have i1 : (q : Int) * (d : Int) ≤ (z.natAbs : Int) := by rw [← Int.natCast_mul]; omega
    have i2 : (z.natAbs : Int) ≤ (g : Int) * (d : Int) := by rw [← Int.natCast_mul]; omega
    by_cases hz : z < 0
    · simp only [decide_eq_true hz, upm, sg]
      simp
      refine ⟨?_, ?_, ?_, ?_, ?_⟩ <;> first | omega | (rw [Int.neg_mul]; omega) | skip
    · simp only [decide_eq_false hz, upm, sg]
      simp
      refine ⟨?_, ?_, ?_, ?_, ?_⟩ <;> first | omega | skip
end Go.Proofs.YtennmjbdmglebaaGreatDoor.R
end

section
/-! Rf: the law FnDecHalf, with no machine in sight. -/
set_option autoImplicit false
set_option linter.unusedSimpArgs false
namespace Go.Proofs.YtennmjbdmglebaaGreatDoor.R
open Go.Rf
/-- the ways to round to the nearest -/
theorem half_facts {z : Int} {d : Nat} (hd : 0 < d) : ∃ q r : Nat, z.natAbs = q * d + r ∧ r < d ∧ rdiv 2 z d = sg (decide (z < 0)) q ∧ rdiv 1 z d = sg (decide (z < 0)) (if r = 0 then q else q + 1) ∧
    rdiv 5 z d = sg (decide (z < 0)) (if r = 0 then q else if 2 * r ≥ d then q + 1 else q) ∧ rdiv 6 z d = sg (decide (z < 0)) (if r = 0 then q else if 2 * r > d then q + 1 else q) ∧
    rdiv 7 z d = sg (decide (z < 0)) (if r = 0 then q else if 2 * r > d ∨ (2 * r = d ∧ q % 2 = 1) then q + 1 else q) := by
  refine ⟨z.natAbs / d, z.natAbs % d, ?_, Nat.mod_lt _ hd, ?_⟩
  · have := Nat.div_add_mod z.natAbs d
    rw [Nat.mul_comm] at this
    omega
  · unfold rdiv rquo
    obtain ⟨q, hq⟩ : ∃ q, q = z.natAbs / d := ⟨_, rfl⟩
    obtain ⟨r, hr⟩ : ∃ r, r = z.natAbs % d := ⟨_, rfl⟩
    rw [← hq, ← hr]
    by_cases h0 : r = 0
    · simp only [h0, if_true]
      exact ⟨trivial, trivial, trivial, trivial, trivial⟩
    · simp only [h0, if_false]
      have c : cmpI (r + r) d = if 2 * r < d then -1 else if 2 * r = d then 0 else 1 := by
        unfold cmpI
        rw [show r + r = 2 * r by omega]
      rw [c]
      refine ⟨by simp [rmore], by simp [rmore], ?_, ?_, ?_⟩
      · simp only [rmore]
        by_cases g1 : 2 * r < d
        · simp [g1, show ¬ d ≤ 2 * r by omega]
        · by_cases g2 : 2 * r = d
          · simp [g2]
          · simp [g1, g2, show d ≤ 2 * r by omega]
      · simp only [rmore]
        by_cases g1 : 2 * r < d
        · simp [g1, show ¬ d < 2 * r by omega]
        · by_cases g2 : 2 * r = d
          · simp [g2]
          · simp [g1, g2, show d < 2 * r by omega]
      · simp only [rmore]
        by_cases g1 : 2 * r < d
        · simp [g1, show ¬ d < 2 * r by omega, show ¬ 2 * r = d by omega]
        · by_cases g2 : 2 * r = d
          · simp [g2]
          · simp [g1, g2, show d < 2 * r by omega]
theorem odd_digs {n : Nat} {y : Int} (h : (digs n)[0]? = some y) : ((y.tmod 2) == 1) = decide (n % 2 = 1) := by
  have hn : n ≠ 0 := by
    intro e
    subst e
    rw [digs_zero] at h
    simp at h
  rw [digs_pos hn] at h
  obtain rfl := Option.some.inj h
  rw [Int.tmod_eq_emod_of_nonneg (by omega)]
  by_cases ho : n % 2 = 1
  · rw [decide_eq_true ho, beq_iff_eq]; omega
  · rw [decide_eq_false ho, beq_eq_false_iff_ne]; omega
set_option maxHeartbeats 4000000 in
theorem FnDecHalf : PureFnDecHalf := by
  intro code w
  have w8 : ∀ y ∈ code, 0 ≤ y ∧ y ≤ 255 := fun y hy => u8_of (w.2 y hy)
  have fin : Ev (fun k => F5 k code) ((true, ()), ((), ())) := by
    refine Ev.step 2 (fun k => F5_eq k _) ?_
    by_cases hlen : code.length > 1048576
    · simp only [decide_eq_true (show (code.length : Int) > 1048576 by omega), if_true]
      exact Ev.now _
    simp only [decide_eq_false (show ¬ (code.length : Int) > 1048576 by omega), Bool.false_eq_true, if_false]
    obtain ⟨n, l, s, sc, mode, hl, hdraw⟩ := drawRound_ev code w8
    obtain ⟨⟨⟨xn, xl, xs, _⟩, xc, _⟩, hm, hm1, hm2, hm3⟩ := DecRound_both n l s sc mode (by omega)
    have hm1 : xl.length ≤ 1000 := hm1
    have hjt := jtDec_same xn xl xs (by omega)
    refine Ev.bind hdraw (Ev.bind hm2 (Ev.bind hm3 ?_))
    simp only [bne_self_eq_false, Bool.false_eq_true, if_false, beq_self_eq_true, if_true]
    refine Ev.bind hjt ?_
    simp only [Bool.not_true, Bool.false_eq_true, if_false]
    by_cases hc1 : xc = 1
    · subst hc1
      simp only [beq_self_eq_true, if_true]
      exact Ev.bind hjt (Ev.now _)
    · simp only [beq_eq_false_iff_ne.2 hc1, Bool.false_eq_true, if_false]
      unfold dRound at hm
      split at hm
      · rename_i hok
        obtain ⟨z, t, rfl, rfl, rfl, hz, ht⟩ := decOk_ex hok.1
        have w2 : 0 ≤ sc ∧ sc ≤ 12 := by simpa [within] using hok.2.1
        obtain ⟨c, rfl⟩ : ∃ c : Nat, sc = (c : Int) := ⟨sc.toNat, by omega⟩
        have hc12 : c ≤ 12 := by omega
        have r2 := roundZ (mode := 2) hz ht hc12 (by omega)
        have r1 := roundZ (mode := 1) hz ht hc12 (by omega)
        have r5 := roundZ (mode := 5) hz ht hc12 (by omega)
        have r6 := roundZ (mode := 6) hz ht hc12 (by omega)
        have r7 := roundZ (mode := 7) hz ht hc12 (by omega)
        clear hm hm3 hm2 hdraw
        obtain ⟨v2, e2⟩ : ∃ v, v = rz 2 z t c := ⟨_, rfl⟩
        obtain ⟨v1, e1⟩ : ∃ v, v = rz 1 z t c := ⟨_, rfl⟩
        obtain ⟨v5, e5⟩ : ∃ v, v = rz 5 z t c := ⟨_, rfl⟩
        obtain ⟨v6, e6⟩ : ∃ v, v = rz 6 z t c := ⟨_, rfl⟩
        obtain ⟨v7, e7⟩ : ∃ v, v = rz 7 z t c := ⟨_, rfl⟩
        rw [← e2] at r2
        rw [← e1] at r1
        rw [← e5] at r5
        rw [← e6] at r6
        rw [← e7] at r7
        refine Ev.bind r2 (Ev.bind r1 (Ev.bind r5 (Ev.bind r6 (Ev.bind r7 ?_))))
        have t3 : ((3 : Int) != 0) = true := rfl
        by_cases f2 : v2.natAbs < 10 ^ 30
        rotate_left
        · rw [mk_over f2]; simp only [t3, if_true]; exact Ev.now _
        by_cases f1 : v1.natAbs < 10 ^ 30
        rotate_left
        · rw [mk_fine f2, mk_over f1]; simp only [bne_self_eq_false, t3, Bool.false_eq_true, if_false, if_true]; exact Ev.now _
        by_cases f5 : v5.natAbs < 10 ^ 30
        rotate_left
        · rw [mk_fine f2, mk_fine f1, mk_over f5]; simp only [bne_self_eq_false, t3, Bool.false_eq_true, if_false, if_true]; exact Ev.now _
        by_cases f6 : v6.natAbs < 10 ^ 30
        rotate_left
        · rw [mk_fine f2, mk_fine f1, mk_fine f5, mk_over f6]; simp only [bne_self_eq_false, t3, Bool.false_eq_true, if_false, if_true]; exact Ev.now _
        by_cases f7 : v7.natAbs < 10 ^ 30
        rotate_left
        · rw [mk_fine f2, mk_fine f1, mk_fine f5, mk_fine f6, mk_over f7]; simp only [bne_self_eq_false, t3, Bool.false_eq_true, if_false, if_true]; exact Ev.now _
        rw [mk_fine f2, mk_fine f1, mk_fine f5, mk_fine f6, mk_fine f7]
        simp only [D, bne_self_eq_false, Bool.false_eq_true, if_false]
        by_cases hge : c ≥ t
        · simp only [decide_eq_true (show (c : Int) ≥ (t : Int) by omega), if_true]
          exact Ev.now _
        · simp only [decide_eq_false (show ¬ (c : Int) ≥ (t : Int) by omega), Bool.false_eq_true, if_false]
          obtain ⟨d, hd⟩ : ∃ d : Nat, d = 10 ^ (t - c) := ⟨_, rfl⟩
          have hdp : 0 < d := by rw [hd]; exact p10 _
          have hd12 : d ≤ 10 ^ 12 := by rw [hd]; exact Nat.pow_le_pow_right (by omega) (by omega)
          have hP : (10 : Int) ^ (t - c) = (d : Int) := by rw [hd, natPow]
          unfold rz at e1 e2 e5 e6 e7
          rw [if_neg (by omega), ← hd] at e1 e2 e5 e6 e7
          obtain ⟨q, r, hqr, hrd, g2, g1, g5, g6, g7⟩ := half_facts (z := z) hdp
          rw [g2] at e2
          rw [g1] at e1
          rw [g5] at e5
          rw [g6] at e6
          rw [g7] at e7
          clear g1 g2 g5 g6 g7
          have hs1 := subD hz f2 ht hc12
          have hs2 := subD f1 hz hc12 ht
          rw [show max t c - t = 0 by omega, show max t c - c = t - c by omega, hP, Int.pow_zero, Int.mul_one] at hs1
          rw [show max c t - t = 0 by omega, show max c t - c = t - c by omega, hP, Int.pow_zero, Int.mul_one] at hs2
          -- the remainders
          have a1 : (z - v2 * (d : Int)).natAbs = r := by
            rw [e2]
            have hqd : ((q * d : Nat) : Int) = (q : Int) * (d : Int) := Int.natCast_mul ..
            by_cases hz0 : z < 0
            · rw [decide_eq_true hz0]
              show (z - -(q : Int) * (d : Int)).natAbs = r
              rw [Int.neg_mul]
              omega
            · rw [decide_eq_false hz0]
              show (z - (q : Int) * (d : Int)).natAbs = r
              omega
          have a2 : (v1 * (d : Int) - z).natAbs = if r = 0 then 0 else d - r := by
            rw [e1]
            have hqd : ((q * d : Nat) : Int) = (q : Int) * (d : Int) := Int.natCast_mul ..
            have hqd1 : (((q + 1) * d : Nat) : Int) = ((q + 1 : Nat) : Int) * (d : Int) := Int.natCast_mul ..
            have hqd2 : (q + 1) * d = q * d + d := Nat.succ_mul ..
            by_cases h0 : r = 0
            · simp only [h0, if_true]
              by_cases hz0 : z < 0
              · rw [decide_eq_true hz0]
                show (-(q : Int) * (d : Int) - z).natAbs = 0
                rw [Int.neg_mul]
                omega
              · rw [decide_eq_false hz0]
                show ((q : Int) * (d : Int) - z).natAbs = 0
                omega
            · simp only [h0, if_false]
              by_cases hz0 : z < 0
              · rw [decide_eq_true hz0]
                show (-((q + 1 : Nat) : Int) * (d : Int) - z).natAbs = d - r
                rw [Int.neg_mul]
                omega
              · rw [decide_eq_false hz0]
                show (((q + 1 : Nat) : Int) * (d : Int) - z).natAbs = d - r
                omega
          have big : (10 : Nat) ^ 12 < 10 ^ 30 := by decide
          obtain ⟨u, hu⟩ : ∃ u, u = (if r = 0 then 0 else d - r) := ⟨_, rfl⟩
          rw [← hu] at a2
          have hud : u ≤ d := by rw [hu]; split <;> omega
          rw [mk_fine (by rw [a1]; omega)] at hs1
          rw [mk_fine (by rw [a2]; omega)] at hs2
          unfold D at hs1 hs2
          rw [a1] at hs1
          rw [a2] at hs2
          refine Ev.bind hs1 (Ev.bind hs2 ?_)
          have hcm := cmpD (z1 := (r : Int)) (z2 := (u : Int)) (s1 := max t c) (s2 := max c t) (by show r < _; omega) (by show u < _; omega) (by omega) (by omega)
          rw [Nat.max_comm c t, Nat.max_self, Nat.sub_self, Int.pow_zero, Int.mul_one, Int.mul_one, show decide ((r : Int) < 0) = false from decide_eq_false (by omega), show decide ((u : Int) < 0) = false from decide_eq_false (by omega), Int.natAbs_natCast, Int.natAbs_natCast] at hcm
          simp only [Nat.max_comm c t]
          refine Ev.bind hcm ?_
          by_cases k1 : r < u
          · -- nearer below
            have ec : cmpZ (r : Int) (u : Int) = -1 := by unfold cmpZ; rw [if_pos (by omega)]
            have hr2 : r ≠ 0 → 2 * r < d := by intro h; rw [hu, if_neg h] at k1; omega
            have q5 : v5 = v2 := by rw [e5, e2]; congr 1; split <;> (try split) <;> omega
            have q6 : v6 = v2 := by rw [e6, e2]; congr 1; split <;> (try split) <;> omega
            have q7 : v7 = v2 := by rw [e7, e2]; congr 1; split <;> (try split) <;> omega
            simp only [ec, beq_self_eq_true, if_true]
            refine Ev.bind (jtC f5) ?_
            simp only [decide_eq_true q5, if_true]
            refine Ev.bind (jtC f6) ?_
            simp only [decide_eq_true q6, if_true]
            refine Ev.bind (jtC f7) ?_
            simp only [decide_eq_true q7]
            exact Ev.now _
          · by_cases k2 : u < r
            · have ec : cmpZ (r : Int) (u : Int) = 1 := by unfold cmpZ; rw [if_neg (by omega), if_neg (by omega)]
              have hr0 : r ≠ 0 := by omega
              have hr2 : 2 * r > d := by rw [hu, if_neg hr0] at k2; omega
              have q5 : v5 = v1 := by rw [e5, e1, if_neg hr0, if_neg hr0, if_pos (by omega)]
              have q6 : v6 = v1 := by rw [e6, e1, if_neg hr0, if_neg hr0, if_pos (by omega)]
              have q7 : v7 = v1 := by rw [e7, e1, if_neg hr0, if_neg hr0, if_pos (by omega)]
              simp only [ec, show ((1 : Int) == -1) = false from rfl, beq_self_eq_true, Bool.false_eq_true, if_false, if_true]
              refine Ev.bind (jtC f5) ?_
              simp only [decide_eq_true q5, if_true]
              refine Ev.bind (jtC f6) ?_
              simp only [decide_eq_true q6, if_true]
              refine Ev.bind (jtC f7) ?_
              simp only [decide_eq_true q7]
              exact Ev.now _
            · have ec : cmpZ (r : Int) (u : Int) = 0 := by unfold cmpZ; rw [if_neg (by omega), if_pos (by omega)]
              have hru : r = 0 ∨ 2 * r = d := by
                by_cases h0 : r = 0
                · exact .inl h0
                · right; rw [hu, if_neg h0] at k1 k2; omega
              have q5 : v5 = v1 := by
                rw [e5, e1]; congr 1
                rcases hru with h | h
                · rw [if_pos h, if_pos h]
                · have hr0 : ¬ r = 0 := by omega
                  simp only [hr0, if_false, show 2 * r ≥ d by omega, if_true]
              have q6 : v6 = v2 := by
                rw [e6, e2]; congr 1
                rcases hru with h | h
                · rw [if_pos h]
                · have hr0 : ¬ r = 0 := by omega
                  simp only [hr0, if_false, show ¬ 2 * r > d by omega]
              have q7 : v7 = v1 ∨ v7 = v2 := by
                rw [e7, e1, e2]
                rcases hru with h | h
                · left; rw [if_pos h, if_pos h]
                · by_cases ho : q % 2 = 1
                  · left
                    have hr0 : ¬ r = 0 := by omega
                    simp only [hr0, if_false, show 2 * r > d ∨ (2 * r = d ∧ q % 2 = 1) from .inr ⟨h, ho⟩, if_true]
                  · right
                    have hr0 : ¬ r = 0 := by omega
                    simp only [hr0, if_false, show ¬ (2 * r > d ∨ (2 * r = d ∧ q % 2 = 1)) by omega]
              have hev : v1 = v2 ∨ v7.natAbs % 2 = 0 := by
                rcases hru with h | h
                · left; rw [e1, e2, if_pos h]
                · right
                  have hr0 : ¬ r = 0 := by omega
                  rw [e7, sg_abs, if_neg hr0]
                  split <;> omega
              simp only [ec, show ((0 : Int) == -1) = false from rfl, show ((0 : Int) == 1) = false from rfl, Bool.false_eq_true, if_false, len_gt]
              by_cases h7 : v7.natAbs = 0
              · have hcond : decide (((digs v7.natAbs).length : Int) > 0) = false := (len_gt _).trans (decide_eq_false (by omega))
                refine Ev.neg (c := fun _ => decide (((digs v7.natAbs).length : Int) > 0)) (fun _ => hcond) ?_
                refine Ev.bind (jtC f1) (Ev.bind (jtC f5) ?_)
                simp only [decide_eq_true q5, if_true]
                refine Ev.bind (jtC f6) ?_
                simp only [decide_eq_true q6, if_true]
                refine Ev.bind (jtC f7) ?_
                by_cases h71 : v7 = v1
                · simp only [decide_eq_true h71, if_true]
                  exact Ev.congr (h := fun _ => some ((true, ()), ((), ()))) (fun k => by split <;> rfl) (Ev.now _)
                · simp only [decide_eq_false h71, Bool.false_eq_true, if_false]
                  refine Ev.bind (jtC f7) ?_
                  simp only [decide_eq_true (q7.resolve_left h71), if_true]
                  exact Ev.congr (h := fun _ => some ((true, ()), ((), ()))) (fun k => by split <;> rfl) (Ev.now _)
              · obtain ⟨y, hy⟩ : ∃ y, (digs v7.natAbs)[0]? = some y := by rw [digs_pos h7]; exact ⟨_, rfl⟩
                have hodd := odd_digs hy
                have hcond : decide (((digs v7.natAbs).length : Int) > 0) = true := (len_gt _).trans (decide_eq_true h7)
                refine Ev.pos (c := fun _ => decide (((digs v7.natAbs).length : Int) > 0)) (fun _ => hcond) ?_
                simp only [hy, Option.bind_some, hodd]
                refine Ev.bind (jtC f1) (Ev.bind (jtC f5) ?_)
                simp only [decide_eq_true q5, if_true]
                refine Ev.bind (jtC f6) ?_
                simp only [decide_eq_true q6, if_true]
                refine Ev.bind (jtC f7) ?_
                have fine : Ev (fun _ => if decide (v1 = v2) = true then some ((true, ()), ((), ())) else some (((!decide (v7.natAbs % 2 = 1)), ()), ((), ()))) ((true, ()), ((), ())) := by
                  rcases hev with h | h
                  · simp only [decide_eq_true h, if_true]
                    exact Ev.now _
                  · simp only [decide_eq_false (show ¬ v7.natAbs % 2 = 1 by omega), Bool.not_false, ite_self]
                    exact Ev.now _
                by_cases h71 : v7 = v1
                · simp only [decide_eq_true h71, if_true]
                  exact fine
                · simp only [decide_eq_false h71, Bool.false_eq_true, if_false]
                  refine Ev.bind (jtC f7) ?_
                  simp only [decide_eq_true (q7.resolve_left h71), if_true]
                  exact fine
      · unfold dForm at hm
        cases hm
        exact absurd rfl hc1
  obtain ⟨k, hk⟩ := Ev.get fin
  exact ⟨k, _, hk⟩
end Go.Proofs.YtennmjbdmglebaaGreatDoor.R
end

section
/-- The row, under a short name, for the claim. -/
theorem Go.Proofs.YtennmjbdmglebaaGreatDoor.fnDecHalf_holds : Go.Proofs.YtennmjbdmglebaaGreatDoor.Rows.FnDecHalfCardSaid := Go.Proofs.YtennmjbdmglebaaGreatDoor.fnDecHalf.card Go.Proofs.YtennmjbdmglebaaGreatDoor.R.FnDecHalf
end
