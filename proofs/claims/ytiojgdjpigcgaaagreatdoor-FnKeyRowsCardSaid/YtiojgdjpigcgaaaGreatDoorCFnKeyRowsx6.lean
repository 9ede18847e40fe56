/- A part of the proof that the law FnKeyRows answers true for every input: contracts of functions that it reaches, or its plain law. -/
import Derived.Test.YtiojgdjpigcgaaaGreatDoorCFnKeyRowsx0
import Derived.Test.YtiojgdjpigcgaaaGreatDoorCFnKeyRowsx2
import Derived.Test.YtiojgdjpigcgaaaGreatDoorCFnKeyRowsx3
import Derived.Test.YtiojgdjpigcgaaaGreatDoorCFnKeyRowsx4
import Derived.Test.YtiojgdjpigcgaaaGreatDoorCFnKeyRowsx5
section
/-! Rf: keys stand in the order of what they say. -/
set_option autoImplicit false
set_option linter.unusedSimpArgs false
set_option linter.unusedVariables false
namespace Go.Proofs.YtiojgdjpigcgaaaGreatDoor.R
open Go.Rf
def NumX (x : Int) (B : List UInt8) : Prop := (x = 0 ∧ B = [128]) ∨ ∃ (V r : Nat), 0 < V ∧ (Lib.decDigits V).length ≤ 30 ∧ r ≤ 12 ∧ x.natAbs = V * 10 ^ (12 - r) ∧ B = nk (decide (x < 0)) (u8 (64 + ((Lib.decDigits V).length : Int) - r)) (Lib.trimRightB (Lib.decDigits V) 48)
structure BodyX (k0 : Int) (y n : Bool) (l : List Int) (s day mo da : Int) (t : ByteArray) (B : List UInt8) : Prop where
  s0 : k0 = 0 → B = []
  s1 : k0 = 1 → B = [u8 (bit y)]
  s2 : k0 = 2 → ∃ (z : Int) (u : Nat), n = decide (z < 0) ∧ l = digs z.natAbs ∧ s = (u : Int) ∧ u ≤ 12 ∧ NumX (z * 10 ^ (12 - u)) B
  s3 : k0 = 3 → B = k3 day
  s4 : k0 = 4 → B = k3 (mo + 120000) ++ k3 (da + 4000000)
  s5 : k0 = 5 → (∀ b ∈ t.data.toList, b ≠ 0) ∧ B = t.data.toList ++ [0]
theorem nk_pos (d : UInt8) (W : List UInt8) : nk false d W = 129 :: (d :: dig W) := rfl
theorem nk_neg (d : UInt8) (W : List UInt8) : nk true d W = 127 :: flip (d :: dig W) := rfl
theorem numX_cmp {x1 x2 : Int} {B1 B2 : List UInt8} (h1 : NumX x1 B1) (h2 : NumX x2 B2) : cb B1 B2 = zc x1 x2 := by
  have q7 : (127 : UInt8).toNat = 127 := rfl
  have q8 : (128 : UInt8).toNat = 128 := rfl
  have q9 : (129 : UInt8).toNat = 129 := rfl
  rcases h1 with ⟨e1, rfl⟩ | ⟨V1, r1, v1, l1, g1, a1, rfl⟩
  · rcases h2 with ⟨e2, rfl⟩ | ⟨V2, r2, v2, l2, g2, a2, rfl⟩
    · rw [cb_self, e1, e2]; rfl
    · have p2 : 0 < V2 * 10 ^ (12 - r2) := Nat.mul_pos v2 (Nat.pow_pos (by omega))
      by_cases n2 : x2 < 0
      · rw [decide_eq_true n2, nk_neg, cb_cons, if_neg (by omega), if_pos (by omega)]
        unfold zc
        rw [if_neg (by omega), if_pos (by omega)]
      · rw [decide_eq_false n2, nk_pos, cb_cons, if_pos (by omega)]
        unfold zc
        rw [if_pos (by omega)]
  · have p1 : 0 < V1 * 10 ^ (12 - r1) := Nat.mul_pos v1 (Nat.pow_pos (by omega))
    rcases h2 with ⟨e2, rfl⟩ | ⟨V2, r2, v2, l2, g2, a2, rfl⟩
    · by_cases n1 : x1 < 0
      · rw [decide_eq_true n1, nk_neg, cb_cons, if_pos (by omega)]
        unfold zc
        rw [if_pos (by omega)]
      · rw [decide_eq_false n1, nk_pos, cb_cons, if_neg (by omega), if_pos (by omega)]
        unfold zc
        rw [if_neg (by omega), if_pos (by omega)]
    · have p2 : 0 < V2 * 10 ^ (12 - r2) := Nat.mul_pos v2 (Nat.pow_pos (by omega))
      have hc := pos_cmp v1 v2 l1 l2 g1 g2
      by_cases n1 : x1 < 0
      · by_cases n2 : x2 < 0
        · rw [decide_eq_true n1, decide_eq_true n2, nk_neg, nk_neg, cb_cons, if_neg (by omega), if_neg (by omega)]
          have fr : ∀ {V V' : Nat} {d d' : UInt8}, d :: dig (Lib.trimRightB (Lib.decDigits V) 48) <+: d' :: dig (Lib.trimRightB (Lib.decDigits V') 48) → d :: dig (Lib.trimRightB (Lib.decDigits V) 48) = d' :: dig (Lib.trimRightB (Lib.decDigits V') 48) := fun {V V' d d'} h => by
            rw [List.cons_prefix_cons] at h
            rw [h.1, dig_free (fun b hb => dd_range V b (trim_mem hb)) (fun b hb => dd_range V' b (trim_mem hb)) h.2]
          rw [cb_flip fr fr, hc, ← zc_swap]
          rw [show x1 = -((V1 * 10 ^ (12 - r1) : Nat) : Int) by omega, show x2 = -((V2 * 10 ^ (12 - r2) : Nat) : Int) by omega]
          unfold zc
          repeat' split
          all_goals omega
        · rw [decide_eq_true n1, decide_eq_false n2, nk_neg, nk_pos, cb_cons, if_pos (by omega)]
          unfold zc
          rw [if_pos (by omega)]
      · by_cases n2 : x2 < 0
        · rw [decide_eq_false n1, decide_eq_true n2, nk_neg, nk_pos, cb_cons, if_neg (by omega), if_pos (by omega)]
          unfold zc
          rw [if_neg (by omega), if_pos (by omega)]
        · rw [decide_eq_false n1, decide_eq_false n2, nk_pos, nk_pos, cb_cons, if_neg (by omega), if_neg (by omega), hc]
          rw [show x1 = ((V1 * 10 ^ (12 - r1) : Nat) : Int) by omega, show x2 = ((V2 * 10 ^ (12 - r2) : Nat) : Int) by omega]
theorem num_exact {z : Int} {t : Nat} (hz : z.natAbs < 10 ^ 30) (ht : t ≤ 12) : ∃ K : List UInt8, NumX (z * 10 ^ (12 - t)) K ∧ K.length ≤ 1000 ∧ Ev (fun k => F86 k (decide (z < 0)) (digs z.natAbs) (t : Int)) ((ints K, ()), (((), (), (), ()), ())) := by
  have l16 := len16 hz
  obtain ⟨i1, i2, i3⟩ := trim_both (n := decide (z < 0)) (l := digs z.natAbs) (s0 := (t : Int)) t z.natAbs ht l16 (fun e => decide_eq_false (by omega))
  obtain ⟨s1, s2, _⟩ := trimN_spec t z.natAbs
  obtain ⟨V, hV⟩ : ∃ V, V = (trimN z.natAbs t).1 := ⟨_, rfl⟩
  obtain ⟨r, hr⟩ : ∃ r, r = (trimN z.natAbs t).2 := ⟨_, rfl⟩
  rw [← hV, ← hr] at i2
  rw [← hV] at i1
  rw [← hV, ← hr] at s2
  rw [← hr] at s1
  have hd : Ev (fun k => F128 k (decide (z < 0)) (digs z.natAbs) (t : Int)) (((decide (z < 0), digs V, (r : Int), ()), ()), (((), (), (), ()), ())) := by
    have dok := DecOk_ev (decide (z < 0)) (digs z.natAbs) (t : Int) (by omega)
    rw [decOk_D hz ht] at dok
    refine Ev.step 2 (fun k => F128_eq k _ _ _) (Ev.bind dok ?_)
    simp only [Bool.not_true, Bool.false_eq_true, if_false]
    exact i2
  have e0 : (((digs V).length : Int) == 0) = decide (V = 0) := len_is0 V
  by_cases h0 : V = 0
  · have e1 : (((digs V).length : Int) == 0) = true := by rw [e0, decide_eq_true h0]
    have hz0 : z = 0 := by rw [h0, Nat.zero_mul] at s2; omega
    refine ⟨[128], .inl ⟨by rw [hz0, Int.zero_mul], rfl⟩, by simp, Ev.step 2 (fun k => F86_eq k _ _ _) (Ev.bind hd ?_)⟩
    simp only [e1, if_true]
    exact Ev.now _
  · obtain ⟨T, hT⟩ : ∃ T, T = Lib.decDigits V := ⟨_, rfl⟩
    have hVlt : V < 10 ^ 30 := by
      have : V ≤ z.natAbs := by
        rw [← s2]
        exact Nat.le_mul_of_pos_right _ (Nat.pow_pos (by omega))
      omega
    have hlong : ¬ long (digs V) > 30 := fun h => (long30 V).1 h hVlt
    rw [long_digs, if_neg h0, ← hT] at hlong
    have tl : T.length ≤ 30 := by omega
    have htx := text_ev (digs_InR V) (show (digs V).length ≤ 1000000 by omega)
    rw [textL_digs, ← hT] at htx
    have wl := trimB_len T
    have hpow : (0 : Int) < 10 ^ (12 - t) := pow10_pos _
    have hA : (z * 10 ^ (12 - t)).natAbs = V * 10 ^ (12 - r) := by
      rw [Int.natAbs_mul, ← s2, show ((10 : Int) ^ (12 - t)).natAbs = 10 ^ (12 - t) by rw [Int.natAbs_pow]; rfl, Nat.mul_assoc, ← Nat.pow_add, show t - r + (12 - t) = 12 - r by omega]
    have hsg : decide (z * 10 ^ (12 - t) < 0) = decide (z < 0) := by
      rw [decide_eq_decide]
      constructor
      · intro h
        refine Decidable.by_contra fun hn => ?_
        have := Int.mul_nonneg (show 0 ≤ z by omega) (Int.le_of_lt hpow)
        omega
      · intro h
        exact Int.mul_neg_of_neg_of_pos h hpow
    refine ⟨nk (decide (z < 0)) (u8 (64 + (T.length : Int) - r)) (Lib.trimRightB T 48), .inr ⟨V, r, by omega, by rw [← hT]; exact tl, by omega, hA, by rw [hsg, ← hT]⟩, ?_, Ev.step 2 (fun k => F86_eq k _ _ _) (Ev.bind hd ?_)⟩
    · unfold nk
      have := dig_len (Lib.trimRightB T 48)
      split
      · rw [List.length_cons, flip_len, List.length_cons]; omega
      · rw [List.length_cons, List.length_cons]; omega
    · simp only [e0, h0, decide_false, Bool.false_eq_true, if_false]
      have htr : Ev (fun k => F130 k (ba T) (⟨#[48]⟩ : ByteArray)) ((ba (Lib.trimRightB T 48), ()), ((), (), ())) := by
        refine Ev.step 1 (fun k => F130_eq k _ _) ?_
        have : trimR (ba T, (⟨#[48]⟩ : ByteArray), ()) = some ((ba (Lib.trimRightB T 48), ()), ((), (), ())) := by
          have hb : Nat.ble (ba T).size 9223372036854775807 = true := Nat.ble_eq_true_of_le (by rw [ba_size]; omega)
          show (bif Nat.blt (48 : UInt8).toNat 128 && Nat.ble (ba T).size 9223372036854775807 then _ else _) = _
          rw [hb]
          rfl
        rw [this]
        exact Ev.now _
      refine Ev.bind htx (Ev.bind htr ?_)
      have ew : IntKind.i64.wrap (IntKind.i64.wrap (64 + (((ba T).size : Nat) : Int)) - (r : Int)) = 64 + (T.length : Int) - r := by
        rw [ba_size, wrap64 (show -9223372036854775808 ≤ 64 + (T.length : Int) by omega) (by omega), wrap64 (by omega) (by omega)]
      have := nkC (n := decide (z < 0)) (l := digs V) (s := (r : Int)) (W := Lib.trimRightB T 48) (hdr := u8 (64 + (T.length : Int) - r)) (by omega) (Lib.trimRightB T 48).length 0 (by omega)
      show Ev (fun k => F86c7 k (decide (z < 0)) (digs V) (r : Int) [IntKind.u8.wrap (IntKind.i64.wrap (IntKind.i64.wrap (64 + (((ba T).size : Nat) : Int)) - (r : Int)))] (ints (Lib.trimRightB T 48)) ((ints (Lib.trimRightB T 48)).length : Int) 0) _
      rw [ew, ints1, ints_len]
      exact this
section
variable {k0 : Int} {y n : Bool} {l : List Int} {s day mo da : Int} {t : ByteArray}
theorem key_exact2 (h : vOk k0 y n l s day mo da t = true) : ∃ B : List UInt8, BodyX k0 y n l s day mo da t B ∧ B.length ≤ 2000 ∧ ∀ down : Bool, Ev (fun k => F37 k k0 y n l s day mo da t down) ((ints (if down = true then flip (u8 (IntKind.i64.wrap (k0 + 1)) :: B) else u8 (IntKind.i64.wrap (k0 + 1)) :: B), ()), (((), (), (), (), (), (), (), (), (), ()), (), ())) := by
  have hk := vOk_kind h
  have fin : ∀ {B : List UInt8}, B.length ≤ 2000 → BodyX k0 y n l s day mo da t B →
      (∀ (down : Bool) {r}, Ev (fun k => F37c13 k down (ints (u8 (IntKind.i64.wrap (k0 + 1)) :: B))) r → Ev (fun k => F37 k k0 y n l s day mo da t down) r) → ∃ B : List UInt8, BodyX k0 y n l s day mo da t B ∧ B.length ≤ 2000 ∧ ∀ down : Bool, Ev (fun k => F37 k k0 y n l s day mo da t down) ((ints (if down = true then flip (u8 (IntKind.i64.wrap (k0 + 1)) :: B) else u8 (IntKind.i64.wrap (k0 + 1)) :: B), ()), (((), (), (), (), (), (), (), (), (), ()), (), ())) := fun {B} hB hS hi =>
    ⟨B, hS, hB, fun down => hi down (key_end down _ (by rw [List.length_cons]; omega))⟩
  have hd : ∀ {B : List UInt8}, B.length ≤ 2000 → (decide ([IntKind.u8.wrap (IntKind.i64.wrap (k0 + 1))].length + (ints B).length ≤ 140737488355328)) = true := fun {B} hB => decide_eq_true (by rw [ints_len, List.length_singleton]; omega)
  have hj : ∀ B : List UInt8, [IntKind.u8.wrap (IntKind.i64.wrap (k0 + 1))] ++ ints B = ints (u8 (IntKind.i64.wrap (k0 + 1)) :: B) := fun B => by rw [ints1, ints_app]; rfl
  by_cases g1 : k0 = 1
  · refine fin (B := [u8 (bit y)]) (by simp) ⟨by omega, fun _ => rfl, by omega, by omega, by omega, by omega⟩ (fun down {r} hr => Ev.step 2 (fun k => F37_eq k _ _ _ _ _ _ _ _ _ _) ?_)
    simp only [beq_iff_eq.2 g1, if_true]
    refine Ev.bind (truth_ev y) ?_
    rw [ints1 (bit y), hd (by simp)]
    simp only [if_true, hj]
    exact hr
  have b1 := beq_eq_false_iff_ne.2 g1
  by_cases g2 : k0 = 2
  · obtain ⟨z, u, rfl, rfl, rfl, hz, hu⟩ := decOk_ex (vOk_num _ _ _ _ _ _ _ _ _ h g2)
    obtain ⟨B, hS, hB, h1⟩ := num_exact hz hu
    refine fin (B := B) (by omega) ⟨by omega, by omega, fun _ => ⟨z, u, rfl, rfl, rfl, hu, hS⟩, by omega, by omega, by omega⟩ (fun down {r} hr => Ev.step 2 (fun k => F37_eq k _ _ _ _ _ _ _ _ _ _) ?_)
    simp only [b1, beq_iff_eq.2 g2, Bool.false_eq_true, if_false, if_true]
    refine Ev.bind h1 ?_
    rw [hd (by omega)]
    simp only [if_true, hj]
    exact hr
  have b2 := beq_eq_false_iff_ne.2 g2
  by_cases g3 : k0 = 3
  · refine fin (B := k3 day) (by simp [k3]) ⟨by omega, by omega, by omega, fun _ => rfl, by omega, by omega⟩ (fun down {r} hr => Ev.step 2 (fun k => F37_eq k _ _ _ _ _ _ _ _ _ _) ?_)
    simp only [b1, b2, beq_iff_eq.2 g3, Bool.false_eq_true, if_false, if_true]
    refine Ev.bind three_ev ?_
    rw [hd (by simp [k3])]
    simp only [if_true, hj]
    exact hr
  have b3 := beq_eq_false_iff_ne.2 g3
  by_cases g4 : k0 = 4
  · obtain ⟨hm, hda⟩ := vOk_span h g4
    have w1 : IntKind.i64.wrap (mo + 120000) = mo + 120000 := wrap64 (by omega) (by omega)
    have w2 : IntKind.i64.wrap (da + 4000000) = da + 4000000 := wrap64 (by omega) (by omega)
    refine fin (B := k3 (IntKind.i64.wrap (mo + 120000)) ++ k3 (IntKind.i64.wrap (da + 4000000))) (by simp [k3]) ⟨by omega, by omega, by omega, by omega, fun _ => by rw [w1, w2], by omega⟩ (fun down {r} hr => Ev.step 2 (fun k => F37_eq k _ _ _ _ _ _ _ _ _ _) ?_)
    simp only [b1, b2, b3, beq_iff_eq.2 g4, Bool.false_eq_true, if_false, if_true]
    refine Ev.bind three_ev ?_
    rw [hd (by simp [k3])]
    simp only [if_true, hj]
    refine Ev.bind three_ev ?_
    have c : decide ((ints (u8 (IntKind.i64.wrap (k0 + 1)) :: k3 (IntKind.i64.wrap (mo + 120000)))).length + (ints (k3 (IntKind.i64.wrap (da + 4000000)))).length ≤ 140737488355328) = true := decide_eq_true (by rw [ints_len, ints_len]; simp [k3])
    simp only [c, if_true, ints_app, List.cons_append]
    exact hr
  have b4 := beq_eq_false_iff_ne.2 g4
  by_cases g5 : k0 = 5
  · have ht := vOk_text h g5
    have hl : t.data.toList.length ≤ 12 := ht
    have hT : ∀ b ∈ t.data.toList, b ≠ 0 := by
      unfold vOk bodyOk textOk figOk at h
      rw [if_neg (by omega), if_neg (by omega), if_neg (by omega), if_pos g5] at h
      simp only [Bool.and_eq_true] at h
      have hf := h.2.2.2
      rw [List.all_eq_true] at hf
      intro b hb e
      obtain ⟨i, hi, ei⟩ := List.getElem_of_mem hb
      have h1 := hf i (List.mem_range.2 hi)
      obtain ⟨u, hu, hbu⟩ := byteAt (s := t) (i := i) hi
      rw [hbu] at h1
      have hg : t[i]? = some b := by
        rw [← of_data t, ba_get, List.getElem?_eq_getElem hi, ei]
      rw [hu] at hg
      cases hg
      unfold within at h1
      rw [e] at h1
      exact absurd h1 (by decide)
    refine fin (B := t.data.toList ++ [0]) (by rw [List.length_append, List.length_singleton]; omega) ⟨by omega, by omega, by omega, by omega, by omega, fun _ => ⟨hT, rfl⟩⟩ (fun down {r} hr => Ev.step 2 (fun k => F37_eq k _ _ _ _ _ _ _ _ _ _) ?_)
    have c1 : decide ([IntKind.u8.wrap (IntKind.i64.wrap (k0 + 1))].length + (t.data.toList.map fun b => (b.toNat : Int)).length ≤ 140737488355328) = true := decide_eq_true (by rw [List.length_map, List.length_singleton]; omega)
    have e1 : [IntKind.u8.wrap (IntKind.i64.wrap (k0 + 1))] ++ (t.data.toList.map fun b => (b.toNat : Int)) = ints (u8 (IntKind.i64.wrap (k0 + 1)) :: t.data.toList) := hj t.data.toList
    have c2 : decide ((ints (u8 (IntKind.i64.wrap (k0 + 1)) :: t.data.toList)).length + [(0 : Int)].length ≤ 140737488355328) = true := decide_eq_true (by rw [ints_len, List.length_cons, List.length_singleton]; omega)
    simp only [b1, b2, b3, b4, beq_iff_eq.2 g5, Bool.false_eq_true, if_false, if_true, c1, e1, c2]
    rw [show [(0 : Int)] = ints [0] from rfl, ints_app]
    exact hr
  have b5 := beq_eq_false_iff_ne.2 g5
  · refine fin (B := []) (by simp) ⟨fun _ => rfl, by omega, by omega, by omega, by omega, by omega⟩ (fun down {r} hr => Ev.step 2 (fun k => F37_eq k _ _ _ _ _ _ _ _ _ _) ?_)
    simp only [b1, b2, b3, b4, b5, Bool.false_eq_true, if_false]
    rw [ints1]
    exact hr
theorem key_exact (h : vOk k0 y n l s day mo da t = true) : ∃ B : List UInt8, BodyX k0 y n l s day mo da t B ∧ ∀ down : Bool, Ev (fun k => F37 k k0 y n l s day mo da t down) ((ints (if down = true then flip (u8 (IntKind.i64.wrap (k0 + 1)) :: B) else u8 (IntKind.i64.wrap (k0 + 1)) :: B), ()), (((), (), (), (), (), (), (), (), (), ()), (), ())) := by
  obtain ⟨B, h1, _, h2⟩ := key_exact2 h
  exact ⟨B, h1, h2⟩
end
theorem zc_add (x y c : Int) : zc (x + c) (y + c) = zc x y := by
  unfold zc
  repeat' split
  all_goals omega
theorem body_cmp {k0 : Int} {y1 n1 : Bool} {l1 : List Int} {s1 d1 m1 a1 : Int} {t1 : ByteArray} {y2 n2 : Bool} {l2 : List Int} {s2 d2 m2 a2 : Int} {t2 : ByteArray} {B1 B2 : List UInt8} (o1 : vOk k0 y1 n1 l1 s1 d1 m1 a1 t1 = true) (o2 : vOk k0 y2 n2 l2 s2 d2 m2 a2 t2 = true)
    (S1 : BodyX k0 y1 n1 l1 s1 d1 m1 a1 t1 B1) (S2 : BodyX k0 y2 n2 l2 s2 d2 m2 a2 t2 B2) : cb B1 B2 = vc k0 y1 n1 l1 s1 d1 m1 a1 t1 y2 n2 l2 s2 d2 m2 a2 t2 := by
  have hk := vOk_kind o1
  unfold vc
  by_cases c1 : k0 = 1
  · rw [if_pos c1, S1.s1 c1, S2.s1 c1]
    cases y1 <;> cases y2 <;> decide
  by_cases c2 : k0 = 2
  · obtain ⟨z1, u1, e1, e2, e3, g1, q1⟩ := S1.s2 c2
    obtain ⟨z2, u2, e4, e5, e6, g2, q2⟩ := S2.s2 c2
    have hz : zc (z1 * 10 ^ (max u1 u2 - u1)) (z2 * 10 ^ (max u1 u2 - u2)) = zc (z1 * 10 ^ (12 - u1)) (z2 * 10 ^ (12 - u2)) := by
      rw [← zc_mul (pow10_pos (12 - max u1 u2)), Int.mul_assoc, Int.mul_assoc, ← Int.pow_add, ← Int.pow_add, show max u1 u2 - u1 + (12 - max u1 u2) = 12 - u1 by omega, show max u1 u2 - u2 + (12 - max u1 u2) = 12 - u2 by omega]
    rw [if_neg c1, if_pos c2, numX_cmp q1 q2, e1, e2, e3, e4, e5, e6, Int.toNat_natCast, Int.toNat_natCast, dCmp_D, zc_cmpZ, hz]
  by_cases c3 : k0 = 3
  · have b1 := vOk_day o1 c3
    have b2 := vOk_day o2 c3
    rw [if_neg c1, if_neg c2, if_pos c3, S1.s3 c3, S2.s3 c3, cb_k3 (by omega) (by omega)]
  by_cases c4 : k0 = 4
  · obtain ⟨b1, b2⟩ := vOk_span o1 c4
    obtain ⟨b3, b4⟩ := vOk_span o2 c4
    rw [if_neg c1, if_neg c2, if_neg c3, if_pos c4, S1.s4 c4, S2.s4 c4, cb_app _ _ (by simp [k3]), cb_k3 (by omega) (by omega), cb_k3 (by omega) (by omega), zc_add, zc_add]
    by_cases hm : m1 = m2
    · rw [if_pos hm, if_pos (zc_zero.2 hm)]
    · rw [if_neg hm, if_neg (fun h => hm (zc_zero.1 h))]
  rw [if_neg c1, if_neg c2, if_neg c3, if_neg c4]
  by_cases c5 : k0 = 5
  · obtain ⟨h1, e1⟩ := S1.s5 c5
    obtain ⟨h2, e2⟩ := S2.s5 c5
    rw [e1, e2, cb_term h1 h2]
    rfl
  · have c0 : k0 = 0 := by omega
    rw [S1.s0 c0, S2.s0 c0]
    unfold tc
    rw [vOk_noText o1 c5, vOk_noText o2 c5]
theorem key_cmp {k1 : Int} {y1 n1 : Bool} {l1 : List Int} {s1 d1 m1 a1 : Int} {t1 : ByteArray} {k2 : Int} {y2 n2 : Bool} {l2 : List Int} {s2 d2 m2 a2 : Int} {t2 : ByteArray} {B1 B2 : List UInt8} (o1 : vOk k1 y1 n1 l1 s1 d1 m1 a1 t1 = true) (o2 : vOk k2 y2 n2 l2 s2 d2 m2 a2 t2 = true)
    (S1 : BodyX k1 y1 n1 l1 s1 d1 m1 a1 t1 B1) (S2 : BodyX k2 y2 n2 l2 s2 d2 m2 a2 t2 B2) : cb (u8 (IntKind.i64.wrap (k1 + 1)) :: B1) (u8 (IntKind.i64.wrap (k2 + 1)) :: B2) = vo k1 y1 n1 l1 s1 d1 m1 a1 t1 k2 y2 n2 l2 s2 d2 m2 a2 t2 := by
  have h1 := vOk_kind o1
  have h2 := vOk_kind o2
  have e1 := u8_nat (k1 + 1)
  have e2 := u8_nat (k2 + 1)
  rw [wrap64 (show -9223372036854775808 ≤ k1 + 1 by omega) (by omega), wrap64 (show -9223372036854775808 ≤ k2 + 1 by omega) (by omega), cb_cons]
  unfold vo
  by_cases hk : k1 = k2
  · subst hk
    rw [if_neg (by omega), if_neg (by omega), if_pos rfl]
    exact body_cmp o1 o2 S1 S2
  · rw [if_neg hk]
    unfold zc
    by_cases hl : k1 < k2
    · rw [if_pos (by omega), if_pos hl]
    · rw [if_neg (by omega), if_pos (by omega), if_neg hl, if_pos (by omega)]
theorem NumX.shape {x : Int} {B : List UInt8} (h : NumX x B) : NumS B := by
  rcases h with ⟨_, e⟩ | ⟨V, r, _, _, _, _, e⟩
  · exact .inl e
  · exact .inr ⟨_, _, _, fun b hb => dd_range V b (trim_mem hb), e⟩
theorem BodyX.shape {k0 : Int} {y n : Bool} {l : List Int} {s day mo da : Int} {t : ByteArray} {B : List UInt8} (h : BodyX k0 y n l s day mo da t B) : BodyS k0 B :=
  ⟨h.s0, fun e => by rw [h.s1 e]; rfl, fun e => by obtain ⟨_, _, _, _, _, _, q⟩ := h.s2 e; exact q.shape, fun e => by rw [h.s3 e]; rfl, fun e => by rw [h.s4 e]; rfl, fun e => ⟨_, (h.s5 e).1, (h.s5 e).2⟩⟩
end Go.Proofs.YtiojgdjpigcgaaaGreatDoor.R
end

section
/-! Rf: rows of values. -/
set_option autoImplicit false
set_option linter.unusedSimpArgs false
set_option linter.unusedVariables false
namespace Go.Proofs.YtiojgdjpigcgaaaGreatDoor.R
open Go.Rf
abbrev Vl := Int × Bool × Bool × (List Int) × Int × Int × Int × Int × ByteArray × Unit
abbrev Ty := Int × Int × Int × Unit
def vE (v : Vl) : Bool := vOk v.1 v.2.1 v.2.2.1 v.2.2.2.1 v.2.2.2.2.1 v.2.2.2.2.2.1 v.2.2.2.2.2.2.1 v.2.2.2.2.2.2.2.1 v.2.2.2.2.2.2.2.2.1
def tE (t : Ty) : Bool := tOk t.1 t.2.1 t.2.2.1
def fE (v : Vl) (t : Ty) : Bool := fits v.1 v.2.2.2.1 v.2.2.2.2.1 t.1 t.2.1 t.2.2.1
def wE (v : Vl) (t : Ty) : Bool := vFits v.1 v.2.1 v.2.2.1 v.2.2.2.1 v.2.2.2.2.1 v.2.2.2.2.2.1 v.2.2.2.2.2.2.1 v.2.2.2.2.2.2.2.1 v.2.2.2.2.2.2.2.2.1 t.1 t.2.1 t.2.2.1
theorem wE_eq (v : Vl) (t : Ty) : wE v t = (vE v && (tE t && fE v t)) := rfl
def szOk (v : Vl) : Prop := v.2.2.2.1.length ≤ 1048576 ∧ v.2.2.2.2.2.2.2.2.1.size ≤ 1048576
def v0 : Vl := (0, false, false, [], 0, 0, 0, 0, ByteArray.empty, ())
def t0 : Ty := (0, 0, 0, ())
theorem atD {α : Type} {l : List α} {d : α} {i : Nat} (h : i < l.length) : l[i]? = some (l.getD i d) := by
  rw [List.getD_eq_getElem?_getD, List.getElem?_eq_getElem h]; rfl
theorem szD {vs : List Vl} (h : ∀ v ∈ vs, szOk v) {i : Nat} (hi : i < vs.length) : szOk (vs.getD i v0) := h _ (List.mem_of_getElem? (atD hi))
end Go.Proofs.YtiojgdjpigcgaaaGreatDoor.R
end

section
/-! Rf: rows are compared. -/
set_option autoImplicit false
set_option linter.unusedSimpArgs false
set_option linter.unusedVariables false
namespace Go.Proofs.YtiojgdjpigcgaaaGreatDoor.R
open Go.Rf
def allV (vs : List Vl) : Bool := (List.range vs.length).all fun i => vE (vs.getD i v0)
def oE (v w : Vl) : Int := vo v.1 v.2.1 v.2.2.1 v.2.2.2.1 v.2.2.2.2.1 v.2.2.2.2.2.1 v.2.2.2.2.2.2.1 v.2.2.2.2.2.2.2.1 v.2.2.2.2.2.2.2.2.1 w.1 w.2.1 w.2.2.1 w.2.2.2.1 w.2.2.2.2.1 w.2.2.2.2.2.1 w.2.2.2.2.2.2.1 w.2.2.2.2.2.2.2.1 w.2.2.2.2.2.2.2.2.1
theorem allV_get {vs : List Vl} (h : allV vs = true) {i : Nat} (hi : i < vs.length) : vE (vs.getD i v0) = true := by
  unfold allV at h
  rw [List.all_eq_true] at h
  exact h i (List.mem_range.2 hi)
theorem l5RowOk_ev (vs : List Vl) (hl : vs.length ≤ 1048576) (hs : ∀ v ∈ vs, szOk v) : Ev (fun k => F61 k vs) ((allV vs, ()), ((), ())) := by
  refine Ev.step 2 (fun k => F61_eq k _) ?_
  have h := all_loop (L := fun k i => F61c2 k vs i) (n := vs.length) (no := ((false, ()), ((), ()))) (yes := ((true, ()), ((), ()))) (c := fun i => vE (vs.getD i v0))
    (fun i hi hc => by
      refine Ev.step 1 (fun k => F61c2_eq k _ _) ?_
      simp only [lt_true hi, ge0, if_true, Int.toNat_natCast, atD (d := v0) hi, Option.bind_some]
      refine Ev.bind (l4Ok_ev _ _ _ _ _ _ _ _ _ (szD hs hi).1 (szD hs hi).2) ?_
      have hc : (vE (vs.getD i v0)) = false := hc
      unfold vE at hc
      simp only [hc, Bool.not_false, if_true]
      exact Ev.now _)
    (fun i hi hc r hr => by
      refine Ev.step 1 (fun k => F61c2_eq k _ _) ?_
      simp only [lt_true hi, ge0, if_true, Int.toNat_natCast, atD (d := v0) hi, Option.bind_some]
      refine Ev.bind (l4Ok_ev _ _ _ _ _ _ _ _ _ (szD hs hi).1 (szD hs hi).2) ?_
      have hc : (vE (vs.getD i v0)) = true := hc
      unfold vE at hc
      simp only [hc, Bool.not_true, Bool.false_eq_true, if_false, wrap_succ (show i < 9223372036854775807 by omega)]
      exact hr)
    (by
      refine Ev.step 1 (fun k => F61c2_eq k _ _) ?_
      simp only [lt_false (Nat.le_refl vs.length), Bool.false_eq_true, if_false]
      exact Ev.now _)
  have e : (if (List.range vs.length).all (fun i => vE (vs.getD i v0)) = true then ((true, ()), ((), ())) else ((false, ()), ((), ()))) = ((allV vs, ()), ((), ())) := by
    unfold allV
    cases (List.range vs.length).all (fun i => vE (vs.getD i v0)) <;> simp
  rw [e] at h
  exact h
theorem bad_ev (v : Vl) (hs : szOk v) : Ev (fun k => F56 k v.1 v.2.1 v.2.2.1 v.2.2.2.1 v.2.2.2.2.1 v.2.2.2.2.2.1 v.2.2.2.2.2.2.1 v.2.2.2.2.2.2.2.1 v.2.2.2.2.2.2.2.2.1) ((!(vE v), ()), (((), (), (), (), (), (), (), (), (), ()), ())) :=
  Ev.step 2 (fun k => F56_eq k _ _ _ _ _ _ _ _ _) (Ev.bind (ValueOk_ev _ _ _ _ _ _ _ _ _ hs.1 hs.2) (Ev.now _))
theorem hasBad_ev (vs : List Vl) (hl : vs.length ≤ 1048576) (hs : ∀ v ∈ vs, szOk v) : Ev (fun k => F57057 k vs) ((!(allV vs), ()), ((), (), ())) := by
  obtain ⟨r, h1, h2⟩ := find_loop (L := fun k i => F57105c2 k vs (vs.length : Int) i) (n := vs.length) (no := fun i => (((i : Int), ()), ((), (), ()))) (yes := (((-1 : Int), ()), ((), (), ()))) (c := fun i => vE (vs.getD i v0)) (fun i hi hc => by
      refine Ev.step 1 (fun k => F57105c2_eq k vs _ i) ?_
      simp only [lt_true hi, ge0, if_true, Int.toNat_natCast, atD (d := v0) hi, Option.bind_some]
      refine Ev.bind (bad_ev _ (szD hs hi)) ?_
      simp only [hc, Bool.not_false, if_true]
      exact Ev.now _) (fun i hi hc r hr => by
      refine Ev.step 1 (fun k => F57105c2_eq k vs _ i) ?_
      simp only [lt_true hi, ge0, if_true, Int.toNat_natCast, atD (d := v0) hi, Option.bind_some]
      refine Ev.bind (bad_ev _ (szD hs hi)) ?_
      simp only [hc, Bool.not_true, Bool.false_eq_true, if_false]
      rw [wrap_succ (by omega)]
      exact hr) (by
      refine Ev.step 1 (fun k => F57105c2_eq k vs _ vs.length) ?_
      simp only [lt_false (Nat.le_refl vs.length), Bool.false_eq_true, if_false]
      exact Ev.now _)
  refine Ev.step 2 (fun k => F57057_eq k vs) (Ev.bind (Ev.step 2 (fun k => F57105_eq k vs) h1) ?_)
  have : decide (r.1.1 ≥ (0 : Int)) = !(allV vs) := by
    unfold allV
    rcases h2 with ⟨h2, rfl⟩ | ⟨h2, i, _, rfl⟩
    · rw [h2]; rfl
    · rw [h2]; simp
  simp only [this]
  exact Ev.now _
def colsOk (cs : List Int) (n : Nat) : Bool := (List.range cs.length).all fun i => within (cs.getD i 0) 0 ((n : Int) - 1)
theorem col_ev (c : Int) (vs : List Vl) (hl : vs.length ≤ 1048576) : Ev (fun k => F59 k c vs) ((!(within c 0 ((vs.length : Int) - 1)), ()), ((), (), ())) := by
  refine Ev.step 2 (fun k => F59_eq k _ _) ?_
  rw [wrap64 (show -9223372036854775808 ≤ (vs.length : Int) - 1 by omega) (by omega)]
  exact Ev.bind (in_ev _ _ _) (Ev.now _)
theorem hasCol_ev (cs : List Int) (vs : List Vl) (hl : vs.length ≤ 1048576) (hc : cs.length ≤ 1048576) : Ev (fun k => F60058 k cs vs) ((!(colsOk cs vs.length), ()), ((), ((), ()), ())) := by
  obtain ⟨r, h1, h2⟩ := find_loop (L := fun k i => F60106c2 k cs vs (cs.length : Int) i) (n := cs.length) (no := fun i => (((i : Int), ()), ((), ((), ()), ()))) (yes := (((-1 : Int), ()), ((), ((), ()), ()))) (c := fun i => within (cs.getD i 0) 0 ((vs.length : Int) - 1)) (fun i hi hc => by
      refine Ev.step 1 (fun k => F60106c2_eq k cs vs _ i) ?_
      simp only [lt_true hi, ge0, if_true, Int.toNat_natCast, atD (d := (0 : Int)) hi, Option.bind_some]
      refine Ev.bind (col_ev _ vs hl) ?_
      simp only [hc, Bool.not_false, if_true]
      exact Ev.now _) (fun i hi hc r hr => by
      refine Ev.step 1 (fun k => F60106c2_eq k cs vs _ i) ?_
      simp only [lt_true hi, ge0, if_true, Int.toNat_natCast, atD (d := (0 : Int)) hi, Option.bind_some]
      refine Ev.bind (col_ev _ vs hl) ?_
      simp only [hc, Bool.not_true, Bool.false_eq_true, if_false]
      rw [wrap_succ (by omega)]
      exact hr) (by
      refine Ev.step 1 (fun k => F60106c2_eq k cs vs _ cs.length) ?_
      simp only [lt_false (Nat.le_refl cs.length), Bool.false_eq_true, if_false]
      exact Ev.now _)
  refine Ev.step 2 (fun k => F60058_eq k cs vs) (Ev.bind (Ev.step 2 (fun k => F60106_eq k cs vs) h1) ?_)
  have : decide (r.1.1 ≥ (0 : Int)) = !(colsOk cs vs.length) := by
    unfold colsOk
    rcases h2 with ⟨h2, rfl⟩ | ⟨h2, i, _, rfl⟩
    · rw [h2]; rfl
    · rw [h2]; simp
  simp only [this]
  exact Ev.now _
theorem l6ColsOk_ev (cs : List Int) (ds : List Bool) (n : Nat) (hn : n ≤ 1048576) (hc : cs.length ≤ 1048576) : Ev (fun k => F62 k cs ds (n : Int)) ((colsOk cs n && ((cs.length : Int) == (ds.length : Int)), ()), ((), (), (), ())) := by
  refine Ev.step 2 (fun k => F62_eq k _ _ _) ?_
  have h := all_loop (L := fun k i => F62c2 k cs ds (n : Int) i) (n := cs.length) (no := ((false, ()), ((), (), (), ()))) (yes := ((((cs.length : Int) == (ds.length : Int)), ()), ((), (), (), ()))) (c := fun i => within (cs.getD i 0) 0 ((n : Int) - 1))
    (fun i hi hc => by
      refine Ev.step 1 (fun k => F62c2_eq k _ _ _ _) ?_
      simp only [lt_true hi, ge0, if_true, Int.toNat_natCast, atD (d := (0 : Int)) hi, Option.bind_some, wrap64 (show -9223372036854775808 ≤ (n : Int) - 1 by omega) (by omega)]
      refine Ev.bind (l1In_ev _ _ _) ?_
      simp only [hc, Bool.not_false, if_true]
      exact Ev.now _)
    (fun i hi hc r hr => by
      refine Ev.step 1 (fun k => F62c2_eq k _ _ _ _) ?_
      simp only [lt_true hi, ge0, if_true, Int.toNat_natCast, atD (d := (0 : Int)) hi, Option.bind_some, wrap64 (show -9223372036854775808 ≤ (n : Int) - 1 by omega) (by omega)]
      refine Ev.bind (l1In_ev _ _ _) ?_
      simp only [hc, Bool.not_true, Bool.false_eq_true, if_false]
      rw [wrap_succ (by omega)]
      exact hr)
    (by
      refine Ev.step 1 (fun k => F62c2_eq k _ _ _ _) ?_
      simp only [lt_false (Nat.le_refl cs.length), Bool.false_eq_true, if_false]
      exact Ev.now _)
  have e : (if (List.range cs.length).all (fun i => within (cs.getD i 0) 0 ((n : Int) - 1)) = true then ((((cs.length : Int) == (ds.length : Int)), ()), ((), (), (), ())) else ((false, ()), ((), (), (), ()))) = ((colsOk cs n && ((cs.length : Int) == (ds.length : Int)), ()), ((), (), (), ())) := by
    unfold colsOk
    cases (List.range cs.length).all (fun i => within (cs.getD i 0) 0 ((n : Int) - 1)) <;> simp
  rw [e] at h
  exact h
/-! ### all is valid -/
def rO (a b : List Vl) : List Int → List Bool → Int
  | c :: cs, d :: ds => if oE (a.getD c.toNat v0) (b.getD c.toNat v0) = 0 then rO a b cs ds else if d = true then -oE (a.getD c.toNat v0) (b.getD c.toNat v0) else oE (a.getD c.toNat v0) (b.getD c.toNat v0)
  | _, _ => 0
theorem oE_range {v w : Vl} (hv : vE v = true) (hw : vE w = true) : -1 ≤ oE v w ∧ oE v w ≤ 1 :=
  o_range (v := ⟨v.1, v.2.1, v.2.2.1, v.2.2.2.1, v.2.2.2.2.1, v.2.2.2.2.2.1, v.2.2.2.2.2.2.1, v.2.2.2.2.2.2.2.1, v.2.2.2.2.2.2.2.2.1⟩) (w := ⟨w.1, w.2.1, w.2.2.1, w.2.2.2.1, w.2.2.2.2.1, w.2.2.2.2.2.1, w.2.2.2.2.2.2.1, w.2.2.2.2.2.2.2.1, w.2.2.2.2.2.2.2.2.1⟩) hv hw
theorem oE_swap {v w : Vl} (hv : vE v = true) (hw : vE w = true) : oE w v = -oE v w :=
  o_swap (v := ⟨v.1, v.2.1, v.2.2.1, v.2.2.2.1, v.2.2.2.2.1, v.2.2.2.2.2.1, v.2.2.2.2.2.2.1, v.2.2.2.2.2.2.2.1, v.2.2.2.2.2.2.2.2.1⟩) (w := ⟨w.1, w.2.1, w.2.2.1, w.2.2.2.1, w.2.2.2.2.1, w.2.2.2.2.2.1, w.2.2.2.2.2.2.1, w.2.2.2.2.2.2.2.1, w.2.2.2.2.2.2.2.2.1⟩) hv hw
theorem within_iff {n lo hi : Int} : within n lo hi = true ↔ lo ≤ n ∧ n ≤ hi := by
  unfold within
  simp only [Bool.and_eq_true, decide_eq_true_eq, ge_iff_le]
theorem colsOk_get {cs : List Int} {n : Nat} (h : colsOk cs n = true) {i : Nat} (hi : i < cs.length) : 0 ≤ cs.getD i 0 ∧ (cs.getD i 0).toNat < n := by
  unfold colsOk at h
  rw [List.all_eq_true] at h
  have := within_iff.1 (h i (List.mem_range.2 hi))
  omega
section
variable {a b : List Vl} {cs : List Int} {ds : List Bool}
theorem rows_ev (hab : b.length = a.length) (hla : a.length ≤ 1048576) (hc : cs.length ≤ 1048576) (hd : ds.length = cs.length) (ha : allV a = true) (hb : allV b = true) (hk : colsOk cs a.length = true) : ∀ (m i : Nat), i + m = cs.length →
    Ev (fun k => F60c2 k a b ds cs (cs.length : Int) (i : Int)) ((rO a b (cs.drop i) (ds.drop i), ()), ((), (), (), (), ())) ∧ Ev (fun k => F63c2 k a b cs ds (i : Int)) ((rO a b (cs.drop i) (ds.drop i), ()), ((), (), (), (), ())) := by
  intro m
  induction m with
  | zero =>
    intro i hi
    have e : cs.drop i = [] := List.drop_eq_nil_of_le (by omega)
    rw [e]
    refine ⟨Ev.step 1 (fun k => F60c2_eq k _ _ _ _ _ _) ?_, Ev.step 1 (fun k => F63c2_eq k _ _ _ _ _) ?_⟩
    · simp only [lt_false (show cs.length ≤ i by omega), Bool.false_eq_true, if_false]
      exact Ev.now _
    · simp only [lt_false (show cs.length ≤ i by omega), Bool.false_eq_true, if_false]
      exact Ev.now _
  | succ m ih =>
    intro i hi
    have hlt : i < cs.length := by omega
    have hlt2 : i < ds.length := by omega
    obtain ⟨h0, h1⟩ := colsOk_get hk hlt
    obtain ⟨g1, g2⟩ := ih (i + 1) (by omega)
    have e1 : cs.drop i = cs.getD i 0 :: cs.drop (i + 1) := by
      rw [List.drop_eq_getElem_cons hlt, List.getD_eq_getElem?_getD, List.getElem?_eq_getElem hlt]; rfl
    have e2 : ds.drop i = ds.getD i false :: ds.drop (i + 1) := by
      rw [List.drop_eq_getElem_cons hlt2, List.getD_eq_getElem?_getD, List.getElem?_eq_getElem hlt2]; rfl
    obtain ⟨c, hc'⟩ : ∃ c, c = cs.getD i 0 := ⟨_, rfl⟩
    rw [e1, e2]
    have va := allV_get ha h1
    have vb := allV_get hb (show (cs.getD i 0).toNat < b.length by omega)
    have rg := oE_range va vb
    have im := order_ev _ _ _ _ _ _ _ _ _ _ _ _ _ _ _ _ _ _ (show vOk _ _ _ _ _ _ _ _ _ = true from va) (show vOk _ _ _ _ _ _ _ _ _ = true from vb)
    have sp := l4Order_ev _ _ _ _ _ _ _ _ _ _ _ _ _ _ _ _ _ _ (show vOk _ _ _ _ _ _ _ _ _ = true from va) (show vOk _ _ _ _ _ _ _ _ _ = true from vb)
    have ga : a[(cs.getD i 0).toNat]? = some (a.getD (cs.getD i 0).toNat v0) := atD h1
    have gb : b[(cs.getD i 0).toNat]? = some (b.getD (cs.getD i 0).toNat v0) := atD (by omega)
    have gc : cs[i]? = some (cs.getD i 0) := atD hlt
    have gd : ds[i]? = some (ds.getD i false) := atD hlt2
    obtain ⟨n, hn⟩ : ∃ n, n = oE (a.getD (cs.getD i 0).toNat v0) (b.getD (cs.getD i 0).toNat v0) := ⟨_, rfl⟩
    have hn' := hn
    unfold oE at hn'
    rw [← hn'] at im sp
    rw [← hn] at rg
    have ew : IntKind.i64.wrap (0 - n) = -n := by rw [wrap64 (by omega) (by omega)]; omega
    have er : rO a b (cs.getD i 0 :: cs.drop (i + 1)) (ds.getD i false :: ds.drop (i + 1)) = if n = 0 then rO a b (cs.drop (i + 1)) (ds.drop (i + 1)) else if ds.getD i false = true then -n else n := by
      rw [rO, ← hn]
    rw [er]
    constructor
    · refine Ev.step 1 (fun k => F60c2_eq k _ _ _ _ _ _) ?_
      simp only [lt_true hlt, ge0, if_true, Int.toNat_natCast, gc, gd, ga, gb, Option.bind_some, decide_eq_true h0]
      refine Ev.bind im ?_
      by_cases z : n = 0
      · simp only [z, bne_self_eq_false, Bool.false_eq_true, if_false, if_true, wrap_succ (show i < 9223372036854775807 by omega)]
        exact g1
      · have z' : (n != (0 : Int)) = true := by rw [bne_iff_ne]; exact z
        simp only [z', if_true, if_neg z]
        cases hq : ds.getD i false with
        | true =>
          simp only [if_true, ew]
          exact Ev.now _
        | false =>
          simp only [Bool.false_eq_true, if_false]
          exact Ev.now _
    · refine Ev.step 1 (fun k => F63c2_eq k _ _ _ _ _) ?_
      simp only [lt_true hlt, ge0, if_true, Int.toNat_natCast, gc, gd, ga, gb, Option.bind_some, decide_eq_true h0]
      refine Ev.bind sp ?_
      by_cases z : n = 0
      · simp only [z, bne_self_eq_false, Bool.false_eq_true, if_false, if_true, wrap_succ (show i < 9223372036854775807 by omega)]
        exact g2
      · have z' : (n != (0 : Int)) = true := by rw [bne_iff_ne]; exact z
        simp only [z', if_true, if_neg z]
        cases hq : ds.getD i false with
        | true =>
          simp only [if_true, ew]
          exact Ev.now _
        | false =>
          simp only [Bool.false_eq_true, if_false]
          exact Ev.now _
end
def rowsOk (a b : List Vl) (cs : List Int) (ds : List Bool) : Bool := decide (b.length = a.length) && decide (ds.length = cs.length) && allV a && allV b && colsOk cs a.length
def rowV (a b : List Vl) (cs : List Int) (ds : List Bool) : Int := if rowsOk a b cs ds = true then rO a b cs ds else 2
theorem RowOrder_both (a b : List Vl) (cs : List Int) (ds : List Bool) (hla : a.length ≤ 1048576) (hlb : b.length ≤ 1048576) (hc : cs.length ≤ 1048576) (hd : ds.length ≤ 1048576) (sa : ∀ v ∈ a, szOk v) (sb : ∀ v ∈ b, szOk v) :
    Ev (fun k => F20 k a b cs ds) ((rowV a b cs ds, ()), ((), (), (), (), ())) ∧ Ev (fun k => F21 k a b cs ds) ((rowV a b cs ds, ()), ((), (), (), (), ())) := by
  have i1 := hasBad_ev a hla sa
  have i2 := hasBad_ev b hlb sb
  have i3 := hasCol_ev cs a hla hc
  have s1 := l5RowOk_ev a hla sa
  have s2 := l5RowOk_ev b hlb sb
  have s3 := l6ColsOk_ev cs ds a.length hla hc
  unfold rowV rowsOk
  constructor
  · refine Ev.step 2 (fun k => F20_eq k _ _ _ _) ?_
    by_cases h1 : b.length = a.length
    · have c1 : ((a.length : Int) != (b.length : Int)) = false := by rw [h1]; exact bne_self_eq_false _
      simp only [c1, Bool.false_eq_true, if_false, decide_eq_true h1, Bool.true_and]
      by_cases h2 : ds.length = cs.length
      · have c2 : ((cs.length : Int) != (ds.length : Int)) = false := by rw [h2]; exact bne_self_eq_false _
        simp only [c2, Bool.false_eq_true, if_false, decide_eq_true h2, Bool.true_and]
        refine Ev.bind i1 ?_
        cases ha : allV a with
        | false => simp only [Bool.not_false, if_true, Bool.false_and, Bool.false_eq_true, if_false]; exact Ev.now _
        | true =>
          simp only [Bool.not_true, Bool.false_eq_true, if_false, Bool.true_and]
          refine Ev.bind i2 ?_
          cases hb : allV b with
          | false => simp only [Bool.not_false, if_true, Bool.false_and, Bool.false_eq_true, if_false]; exact Ev.now _
          | true =>
            simp only [Bool.not_true, Bool.false_eq_true, if_false, Bool.true_and]
            refine Ev.bind i3 ?_
            cases hk : colsOk cs a.length with
            | false => simp only [Bool.not_false, if_true, Bool.false_and, Bool.false_eq_true, if_false]; exact Ev.now _
            | true =>
              simp only [Bool.not_true, Bool.false_eq_true, if_false, Bool.true_and, if_true]
              have := (rows_ev h1 hla hc h2 ha hb hk cs.length 0 (by omega)).1
              exact Ev.bind (Ev.step 2 (fun k => F60_eq k _ _ _ _) this) (Ev.now _)
      · have c2 : ((cs.length : Int) != (ds.length : Int)) = true := by rw [bne_iff_ne]; omega
        simp only [c2, if_true, decide_eq_false h2, Bool.false_and, Bool.false_eq_true, if_false]
        exact Ev.now _
    · have c1 : ((a.length : Int) != (b.length : Int)) = true := by rw [bne_iff_ne]; omega
      simp only [c1, if_true, decide_eq_false h1, Bool.false_and, Bool.false_eq_true, if_false]
      exact Ev.now _
  · refine Ev.step 2 (fun k => F21_eq k _ _ _ _) (Ev.bind s1 ?_)
    cases ha : allV a with
    | false => simp only [Bool.not_false, if_true, Bool.false_and, Bool.and_false, Bool.false_eq_true, if_false]; exact Ev.now _
    | true =>
      simp only [Bool.not_true, Bool.false_eq_true, if_false, Bool.and_true]
      refine Ev.bind s2 ?_
      cases hb : allV b with
      | false => simp only [Bool.not_false, if_true, Bool.false_and, Bool.and_false, Bool.false_eq_true, if_false]; exact Ev.now _
      | true =>
        simp only [Bool.not_true, Bool.false_eq_true, if_false, Bool.and_true]
        by_cases h1 : b.length = a.length
        · have c1 : ((a.length : Int) != (b.length : Int)) = false := by rw [h1]; exact bne_self_eq_false _
          simp only [c1, Bool.false_eq_true, if_false, decide_eq_true h1, Bool.true_and]
          refine Ev.bind s3 ?_
          by_cases h2 : ds.length = cs.length
          · have c2 : ((cs.length : Int) == (ds.length : Int)) = true := by rw [h2]; exact beq_self_eq_true _
            simp only [c2, decide_eq_true h2, Bool.true_and, Bool.and_true]
            cases hk : colsOk cs a.length with
            | false => simp only [Bool.not_false, if_true, Bool.false_eq_true, if_false]; exact Ev.now _
            | true =>
              simp only [Bool.not_true, Bool.false_eq_true, if_false, if_true]
              have := (rows_ev h1 hla hc h2 ha hb hk cs.length 0 (by omega)).2
              exact Ev.bind (Ev.step 2 (fun k => F63_eq k _ _ _ _) this) (Ev.now _)
          · have c2 : ((cs.length : Int) == (ds.length : Int)) = false := by rw [beq_eq_false_iff_ne]; omega
            simp only [c2, decide_eq_false h2, Bool.false_and, Bool.and_false, Bool.not_false, if_true, Bool.false_eq_true, if_false]
            exact Ev.now _
        · have c1 : ((a.length : Int) != (b.length : Int)) = true := by rw [bne_iff_ne]; omega
          simp only [c1, if_true, decide_eq_false h1, Bool.false_and, Bool.false_eq_true, if_false]
          exact Ev.now _
end Go.Proofs.YtiojgdjpigcgaaaGreatDoor.R
end

section
/-! Rf: what the laws draw: numbers and decimals. -/
set_option autoImplicit false
set_option linter.unusedSimpArgs false
set_option linter.unusedVariables false
namespace Go.Proofs.YtiojgdjpigcgaaaGreatDoor.R
open Go.Rf
/-- a reader's bytes -/
structure Rd (bs : List Int) : Prop where
  len : bs.length ≤ 2000
  b8 : ∀ y ∈ bs, 0 ≤ y ∧ y ≤ 255
theorem xor_small {a b : Int} (ha : 0 ≤ a) (ha2 : a < 4611686018427387904) (hb : 0 ≤ b) (hb2 : b < 4611686018427387904) : 0 ≤ IntKind.i64.wrap (((BitVec.ofInt IntKind.i64.bits a ^^^ BitVec.ofInt IntKind.i64.bits b).toNat : Nat) : Int) := by
  have e : IntKind.i64.bits = 64 := rfl
  have h1 : (BitVec.ofInt IntKind.i64.bits a).toNat < 2 ^ 62 := by
    rw [BitVec.toNat_ofInt, e]
    omega
  have h2 : (BitVec.ofInt IntKind.i64.bits b).toNat < 2 ^ 62 := by
    rw [BitVec.toNat_ofInt, e]
    omega
  have h3 : (BitVec.ofInt IntKind.i64.bits a ^^^ BitVec.ofInt IntKind.i64.bits b).toNat < 2 ^ 62 := by
    rw [BitVec.toNat_xor]
    exact Nat.xor_lt_two_pow h1 h2
  rw [wrap64 (by omega) (by omega)]
  omega
theorem tmod_range {x n : Int} (hx : 0 ≤ x) (hn : 1 ≤ n) : 0 ≤ x.tmod n ∧ x.tmod n < n := by
  rw [Int.tmod_eq_emod_of_nonneg hx]
  exact ⟨Int.emod_nonneg _ (by omega), Int.emod_lt_of_pos _ (by omega)⟩
theorem pick_ev {bs : List Int} (hb : Rd bs) {p : Nat} (hp : p ≤ 1000000000) (n : Int) : ∃ v : Int, (0 ≤ v ∧ (1 ≤ n → v < n) ∧ (n < 1 → v = 0)) ∧ Ev (fun k => F52 k bs (p : Int) n) ((v, ()), ((bs, ((p + 1 : Nat) : Int), ()), (), ())) := by
  have e1 : IntKind.i64.wrap ((p : Int) + 1) = ((p + 1 : Nat) : Int) := wrap_succ (by omega)
  have e2 : IntKind.i64.wrap (((p + 1 : Nat) : Int) - 1) = (p : Int) := by rw [wrap64 (by omega) (by omega)]; omega
  have st : ∀ {r}, Ev (fun _ => if (decide (n < (1 : Int))) = true then some (((0 : Int), ()), ((bs, ((p + 1 : Nat) : Int), ()), (), ())) else if ((bs.length : Int) == (0 : Int)) = true then some (((0 : Int), ()), ((bs, ((p + 1 : Nat) : Int), ()), (), ())) else if (decide ((p : Int) < (bs.length : Int))) = true then if (decide (0 ≤ (p : Int))) = true then (bs[((p : Int)).toNat]?).bind fun y1 => if (!(n == 0)) = true then some ((((IntKind.i64.wrap y1).tmod n), ()), ((bs, ((p + 1 : Nat) : Int), ()), (), ())) else none else none else if (!((bs.length : Int) == 0)) = true then if (decide (0 ≤ ((p : Int).tmod (bs.length : Int)))) = true then (bs[((p : Int).tmod (bs.length : Int)).toNat]?).bind fun y2 => if (!((bs.length : Int) == 0)) = true then if (decide (0 ≤ ((IntKind.i64.wrap ((IntKind.i64.wrap ((p : Int) * (7 : Int))) + (3 : Int))).tmod (bs.length : Int)))) = true then (bs[((IntKind.i64.wrap ((IntKind.i64.wrap ((p : Int) * (7 : Int))) + (3 : Int))).tmod (bs.length : Int)).toNat]?).bind fun y3 => if (!((bs.length : Int) == 0)) = true then if (!(n == 0)) = true then some ((((IntKind.i64.wrap (((BitVec.ofInt IntKind.i64.bits (IntKind.i64.wrap ((IntKind.i64.wrap ((IntKind.i64.wrap ((IntKind.i64.wrap ((IntKind.i64.wrap y2) * (131 : Int))) + (IntKind.i64.wrap ((IntKind.i64.wrap y3) * (1117 : Int))))) + (IntKind.i64.wrap ((p : Int) * (29 : Int))))) + (IntKind.i64.wrap ((IntKind.i64.wrap ((p : Int).tdiv (bs.length : Int))) * (53 : Int))))) ^^^ BitVec.ofInt IntKind.i64.bits (IntKind.i64.wrap ((IntKind.i64.wrap ((IntKind.i64.wrap ((IntKind.i64.wrap ((IntKind.i64.wrap ((IntKind.i64.wrap y2) * (131 : Int))) + (IntKind.i64.wrap ((IntKind.i64.wrap y3) * (1117 : Int))))) + (IntKind.i64.wrap ((p : Int) * (29 : Int))))) + (IntKind.i64.wrap ((IntKind.i64.wrap ((p : Int).tdiv (bs.length : Int))) * (53 : Int))))).tdiv (64 : Int)))).toNat : Int))).tmod n), ()), ((bs, ((p + 1 : Nat) : Int), ()), (), ())) else none else none else none else none else none else none) r → Ev (fun k => F52 k bs (p : Int) n) r := by
    intro r h
    refine Ev.step 2 (fun k => F52_eq k _ _ _) ?_
    simp only [e1, e2]
    exact h
  by_cases h1 : n < 1
  · refine ⟨0, ⟨Int.le_refl _, fun h => by omega, fun _ => rfl⟩, st ?_⟩
    simp only [decide_eq_true h1, if_true]
    exact Ev.now _
  · have hn : (!(n == 0)) = true := by simp; omega
    by_cases h2 : bs.length = 0
    · refine ⟨0, ⟨Int.le_refl _, fun h => by omega, fun _ => rfl⟩, st ?_⟩
      simp only [decide_eq_false h1, Bool.false_eq_true, if_false, h2, Int.ofNat_zero, beq_self_eq_true, if_true]
      exact Ev.now _
    · have hl0 : ((bs.length : Int) == 0) = false := by rw [beq_eq_false_iff_ne]; omega
      by_cases h3 : p < bs.length
      · obtain ⟨y, hy⟩ : ∃ y, bs[p]? = some y := ⟨_, List.getElem?_eq_getElem h3⟩
        have hy8 := hb.b8 y (List.mem_of_getElem? hy)
        have hr := tmod_range (n := n) hy8.1 (by omega)
        refine ⟨y.tmod n, ⟨hr.1, fun _ => hr.2, fun h => by omega⟩, st ?_⟩
        have ey : IntKind.i64.wrap y = y := wrap64 (by omega) (by omega)
        simp only [decide_eq_false h1, Bool.false_eq_true, if_false, hl0, lt_true h3, ge0, if_true, Int.toNat_natCast, hy, Option.bind_some, hn, ey]
        exact Ev.now _
      · have hpos : (0 : Int) < (bs.length : Int) := by omega
        have t1 := tmod_range (x := (p : Int)) (n := (bs.length : Int)) (by omega) (by omega)
        have w7 : IntKind.i64.wrap ((p : Int) * 7) = (p : Int) * 7 := wrap64 (by omega) (by omega)
        have w73 : IntKind.i64.wrap ((p : Int) * 7 + 3) = (p : Int) * 7 + 3 := wrap64 (by omega) (by omega)
        have t2 := tmod_range (x := (p : Int) * 7 + 3) (n := (bs.length : Int)) (by omega) (by omega)
        obtain ⟨y, hy⟩ : ∃ y, bs[((p : Int).tmod (bs.length : Int)).toNat]? = some y := ⟨_, List.getElem?_eq_getElem (by omega)⟩
        obtain ⟨z, hz⟩ : ∃ z, bs[((((p : Int) * 7 + 3)).tmod (bs.length : Int)).toNat]? = some z := ⟨_, List.getElem?_eq_getElem (by omega)⟩
        have hy8 := hb.b8 y (List.mem_of_getElem? hy)
        have hz8 := hb.b8 z (List.mem_of_getElem? hz)
        have ey : IntKind.i64.wrap y = y := wrap64 (by omega) (by omega)
        have ez : IntKind.i64.wrap z = z := wrap64 (by omega) (by omega)
        have d0 : 0 ≤ (p : Int).tdiv (bs.length : Int) ∧ (p : Int).tdiv (bs.length : Int) ≤ (p : Int) := by
          rw [Int.tdiv_eq_ediv_of_nonneg (by omega)]
          exact ⟨Int.ediv_nonneg (by omega) (by omega), Int.ediv_le_self _ (by omega)⟩
        obtain ⟨d, hd⟩ : ∃ d, d = (p : Int).tdiv (bs.length : Int) := ⟨_, rfl⟩
        rw [← hd] at d0
        have w1 : IntKind.i64.wrap (y * 131) = y * 131 := wrap64 (by omega) (by omega)
        have w2 : IntKind.i64.wrap (z * 1117) = z * 1117 := wrap64 (by omega) (by omega)
        have w3 : IntKind.i64.wrap (y * 131 + z * 1117) = y * 131 + z * 1117 := wrap64 (by omega) (by omega)
        have w4 : IntKind.i64.wrap ((p : Int) * 29) = (p : Int) * 29 := wrap64 (by omega) (by omega)
        have w5 : IntKind.i64.wrap (y * 131 + z * 1117 + (p : Int) * 29) = y * 131 + z * 1117 + (p : Int) * 29 := wrap64 (by omega) (by omega)
        have w6 : IntKind.i64.wrap d = d := wrap64 (by omega) (by omega)
        have w8 : IntKind.i64.wrap (d * 53) = d * 53 := wrap64 (by omega) (by omega)
        obtain ⟨X, hX⟩ : ∃ X, X = y * 131 + z * 1117 + (p : Int) * 29 + d * 53 := ⟨_, rfl⟩
        have hX0 : 0 ≤ X ∧ X ≤ 1000000000000 := by omega
        have w9 : IntKind.i64.wrap X = X := wrap64 (by omega) (by omega)
        have q0 : 0 ≤ X.tdiv 64 ∧ X.tdiv 64 ≤ X := by
          rw [Int.tdiv_eq_ediv_of_nonneg (by omega)]
          omega
        have w10 : IntKind.i64.wrap (X.tdiv 64) = X.tdiv 64 := wrap64 (by omega) (by omega)
        have hx := xor_small (a := X) (b := X.tdiv 64) (by omega) (by omega) (by omega) (by omega)
        have hr := tmod_range (n := n) hx (by omega)
        refine ⟨_, ⟨hr.1, fun _ => hr.2, fun h => by omega⟩, st ?_⟩
        simp only [decide_eq_false h1, Bool.false_eq_true, if_false, hl0, lt_false (show bs.length ≤ p by omega), Bool.not_false, if_true, decide_eq_true t1.1, hy, Option.bind_some, w7, w73, decide_eq_true t2.1, hz, hn, ey, ez, w1, w2, w3, w4, w5, ← hd, w6, w8, ← hX, w9, w10]
        exact Ev.now _
theorem one_ev {bs : List Int} (hb : Rd bs) {p : Nat} (hp : p ≤ 1000000000) (l : List Int) (hl : 0 < l.length) : ∃ v ∈ l, Ev (fun k => F54 k bs (p : Int) l) ((v, ()), ((bs, ((p + 1 : Nat) : Int), ()), (), ())) := by
  obtain ⟨v, ⟨h0, h1, _⟩, h2⟩ := pick_ev hb hp (l.length : Int)
  have h1 := h1 (by omega)
  obtain ⟨y, hy⟩ : ∃ y, l[v.toNat]? = some y := ⟨_, List.getElem?_eq_getElem (by omega)⟩
  refine ⟨y, List.mem_of_getElem? hy, Ev.step 2 (fun k => F54_eq k _ _ _) (Ev.bind h2 ?_)⟩
  simp only [decide_eq_true h0, decide_eq_true h1, Bool.and_self, if_true, hy, Option.bind_some]
  exact Ev.now _
/-! ### figures -/
def Fig (s : ByteArray) : Prop := ∀ b ∈ s.data.toList, 48 ≤ b.toNat ∧ b.toNat ≤ 57
theorem Fig.app {s t : ByteArray} (hs : Fig s) (ht : Fig t) : Fig (s ++ t) := by
  intro b hb
  rw [ByteArray.data_append, Array.toList_append, List.mem_append] at hb
  rcases hb with hb | hb
  · exact hs b hb
  · exact ht b hb
theorem fig1 {d : Nat} (h : d < 10) : Fig ⟨[UInt8.ofNat (48 + d)].toArray⟩ := by
  intro b hb
  have hb : b ∈ [UInt8.ofNat (48 + d)] := hb
  rw [List.mem_singleton.1 hb, UInt8.toNat_ofNat']
  omega
theorem size_app (s t : ByteArray) : (s ++ t).size = s.size + t.size := ByteArray.size_append ..
section
variable {bs : List Int} (hb : Rd bs)
include hb
theorem figsI {n : Nat} (hn : n ≤ 64) : ∀ (m p : Nat) (s : ByteArray), s.size + m = max n s.size → p + 2 * m ≤ 1000000 → Fig s → s.size ≤ 64 → ∃ (t : ByteArray) (q : Nat), q ≤ p + 2 * m ∧ Fig t ∧ t.size ≤ 64 ∧ 0 < s.size + t.size + 1 ∧ s.size ≤ t.size ∧
    Ev (fun k => F187c4 k bs (p : Int) (n : Int) s) ((t, ()), ((bs, (q : Int), ()), (), ())) := by
  intro m
  induction m with
  | zero =>
    intro p s hs hp hf h64
    refine ⟨s, p, by omega, hf, h64, by omega, Nat.le_refl _, Ev.step 1 (fun k => F187c4_eq k _ _ _ _) ?_⟩
    simp only [lt_false (show n ≤ s.size by omega), Bool.false_eq_true, if_false]
    exact Ev.now _
  | succ m ih =>
    intro p s hs hp hf h64
    obtain ⟨v1, ⟨a0, a1, _⟩, h1⟩ := pick_ev hb (show p ≤ 1000000000 by omega) 10
    have a1 := a1 (by omega)
    obtain ⟨v2, hm, h2⟩ := one_ev hb (show p + 1 ≤ 1000000000 by omega) [0, 0, 9, 9, 5, 1, v1] (by simp)
    have hv : 0 ≤ v2 ∧ v2 < 10 := by
      simp only [List.mem_cons, List.not_mem_nil, or_false] at hm
      omega
    obtain ⟨d, rfl⟩ : ∃ d : Nat, v2 = (d : Int) := ⟨v2.toNat, by omega⟩
    have hd : d < 10 := by omega
    have hsz : (⟨[UInt8.ofNat (48 + d)].toArray⟩ : ByteArray).size = 1 := rfl
    have hs2 : (s ++ (⟨[UInt8.ofNat (48 + d)].toArray⟩ : ByteArray)).size = s.size + 1 := by rw [size_app, hsz]
    obtain ⟨t, q, hq, ht, ht64, _, hle, hE⟩ := ih (p + 1 + 1) (s ++ (⟨[UInt8.ofNat (48 + d)].toArray⟩ : ByteArray)) (by rw [hs2]; omega) (by omega) (hf.app (fig1 hd)) (by rw [hs2]; omega)
    refine ⟨t, q, by omega, ht, ht64, by omega, by omega, Ev.step 1 (fun k => F187c4_eq k _ _ _ _) ?_⟩
    simp only [lt_true (show s.size < n by omega), if_true]
    refine Ev.bind h1 (Ev.bind h2 ?_)
    simp only [bytesOf_digit hd, hsz]
    have hble : Nat.ble (s.size + 1) 9223372036854775807 = true := Nat.ble_eq_true_of_le (by omega)
    simp only [hble, if_true]
    exact hE
theorem figs_ev {n : Int} (h0 : 0 ≤ n) (hn : n ≤ 64) {p : Nat} (hp : p + 200 ≤ 1000000) : ∃ (t : ByteArray) (q : Nat), q ≤ p + 200 ∧ Fig t ∧ t.size ≤ 64 ∧ Ev (fun k => F187 k bs (p : Int) n) ((t, ()), ((bs, (q : Int), ()), (), ())) := by
  obtain ⟨m, rfl⟩ : ∃ m : Nat, n = (m : Int) := ⟨n.toNat, by omega⟩
  by_cases h1 : m < 1
  · refine ⟨⟨#[48]⟩, p, by omega, fig1 (d := 0) (by omega), by decide, Ev.step 2 (fun k => F187_eq k _ _ _) ?_⟩
    simp only [decide_eq_true (show (m : Int) < 1 by omega), if_true]
    exact Ev.now _
  · obtain ⟨v, ⟨a0, a1, _⟩, h2⟩ := pick_ev hb (show p ≤ 1000000000 by omega) 9
    have a1 := a1 (by omega)
    obtain ⟨d, rfl⟩ : ∃ d : Nat, v = (d : Int) := ⟨v.toNat, by omega⟩
    have e : (49 : Int) + (d : Int) = 48 + ((d + 1 : Nat) : Int) := by omega
    obtain ⟨t, q, hq, ht, ht64, _, _, hE⟩ := figsI hb (n := m) (by omega) (m - 1) (p + 1) ⟨[UInt8.ofNat (48 + (d + 1))].toArray⟩ (by show 1 + (m - 1) = max m 1; omega) (by omega) (fig1 (by omega)) (by show 1 ≤ 64; omega)
    refine ⟨t, q, by omega, ht, ht64, Ev.step 2 (fun k => F187_eq k _ _ _) ?_⟩
    simp only [decide_eq_false (show ¬ (m : Int) < 1 by omega), Bool.false_eq_true, if_false]
    refine Ev.bind h2 ?_
    simp only [e, bytesOf_digit (show d + 1 < 10 by omega)]
    exact hE
end
theorem many_ev {a : ByteArray} (ha : Fig a) (h1 : a.size = 1) : ∀ (m : Nat) (s : ByteArray), Fig s → s.size + m ≤ 64 → ∃ t : ByteArray, Fig t ∧ t.size = s.size + m ∧ Ev (fun k => F188c2 k a (m : Int) s) ((t, ()), ((), (), ())) := by
  intro m
  induction m with
  | zero =>
    intro s hs hm
    refine ⟨s, hs, rfl, Ev.step 1 (fun k => F188c2_eq k _ _ _) ?_⟩
    simp only [show decide (((0 : Nat) : Int) > 0) = false from by decide, Bool.false_eq_true, if_false]
    exact Ev.now _
  | succ m ih =>
    intro s hs hm
    have hsz : (s ++ a).size = s.size + 1 := by rw [size_app, h1]
    obtain ⟨t, ht, ht2, hE⟩ := ih (s ++ a) (hs.app ha) (by omega)
    have e : IntKind.i64.wrap (((m + 1 : Nat) : Int) - 1) = (m : Int) := by rw [wrap64 (by omega) (by omega)]; omega
    have hble : Nat.ble (s.size + a.size) 9223372036854775807 = true := Nat.ble_eq_true_of_le (by omega)
    refine ⟨t, ht, by omega, Ev.step 1 (fun k => F188c2_eq k _ _ _) ?_⟩
    simp only [decide_eq_true (show ((m + 1 : Nat) : Int) > 0 by omega), if_true, hble, e]
    exact hE
theorem l1Many_ev {a : ByteArray} (ha : Fig a) (h1 : a.size = 1) {n : Int} (hn : n ≤ 64) (h0 : -10 ≤ n) : ∃ t : ByteArray, Fig t ∧ t.size = n.toNat ∧ Ev (fun k => F188 k a n) ((t, ()), ((), (), ())) := by
  by_cases h : 0 ≤ n
  · obtain ⟨m, rfl⟩ : ∃ m : Nat, n = (m : Int) := ⟨n.toNat, by omega⟩
    obtain ⟨t, h2, h3, h4⟩ := many_ev ha h1 m ⟨#[]⟩ (fun b hb => by simp at hb) (by show 0 + m ≤ 64; omega)
    exact ⟨t, h2, by rw [h3]; show 0 + m = _; omega, Ev.step 2 (fun k => F188_eq k _ _) h4⟩
  · refine ⟨⟨#[]⟩, fun b hb => by simp at hb, by show 0 = _; omega, Ev.step 2 (fun k => F188_eq k _ _) (Ev.step 1 (fun k => F188c2_eq k _ _ _) ?_)⟩
    simp only [decide_eq_false (show ¬ n > 0 by omega), Bool.false_eq_true, if_false]
    exact Ev.now _
end Go.Proofs.YtiojgdjpigcgaaaGreatDoor.R
end

section
/-! Rf: what the laws draw: big integers. -/
set_option autoImplicit false
set_option linter.unusedSimpArgs false
set_option linter.unusedVariables false
namespace Go.Proofs.YtiojgdjpigcgaaaGreatDoor.R
open Go.Rf
theorem trimD {l : List Int} (hr : InR l) (hl : l.length ≤ 1000000) : ∃ N : Nat, (digs N).length ≤ l.length ∧ Ev (fun k => F224 k l) ((digs N, ()), ((), ())) := by
  refine ⟨(VI l).toNat, digs_len_le ?_, l1Trim_ev hr hl⟩
  have h1 := VI_lt hr
  have h2 := VI_nonneg hr
  have h3 : ((10000 ^ l.length : Nat) : Int) = 10000 ^ l.length := Int.natCast_pow ..
  omega
theorem byte_at {s : ByteArray} {i : Nat} (h : i < s.size) : s[i]? = some s[i] := by
  exact getElem?_pos s i h
theorem fig_at {s : ByteArray} (hs : Fig s) {i : Nat} (h : i < s.size) : 48 ≤ s[i].toNat ∧ s[i].toNat ≤ 57 := by
  refine hs _ ?_
  show s.data[i] ∈ s.data.toList
  rw [← Array.getElem_toList]
  exact List.getElem_mem _
theorem fig_extract {s : ByteArray} (hs : Fig s) (n : Nat) : Fig (s.extract 0 n) := by
  intro b hb
  rw [ByteArray.data_extract, Array.toList_extract] at hb
  exact hs b (List.mem_of_mem_drop (List.mem_of_mem_take hb))
theorem figVal {u : UInt8} (h : 48 ≤ u.toNat ∧ u.toNat ≤ 57) : IntKind.i64.wrap (IntKind.u8.wrap ((u.toNat : Int) - 48)) = ((u.toNat - 48 : Nat) : Int) := by
  rw [u8_small (by omega) (by omega), wrap64 (by omega) (by omega)]
  omega
theorem ffC : ∀ (m : Nat) (s : ByteArray) (x3 : List Int), s.size ≤ m → Fig s → InR x3 → x3.length + s.size ≤ 1000 → ∃ N : Nat, (digs N).length ≤ 1000 ∧ Ev (fun k => F190c2 k s x3) ((digs N, ()), ((), ())) := by
  intro m
  induction m using Nat.strongRecOn with
  | _ m ih =>
    intro s x3 hm hs hx hl
    by_cases h0 : s.size = 0
    · obtain ⟨N, hN1, h1⟩ := trimD hx (by omega)
      refine ⟨N, by omega, Ev.step 1 (fun k => F190c2_eq k _ _) ?_⟩
      simp only [h0, show decide (((0 : Nat) : Int) > 0) = false from by decide, Bool.false_eq_true, if_false]
      exact Ev.bind h1 (Ev.now _)
    · have hp : decide ((s.size : Int) > 0) = true := decide_eq_true (by omega)
      have key : ∀ f : Nat, f < s.size → s.size ≤ f + 4 → ∃ N : Nat, (digs N).length ≤ 1000 ∧ Ev (fun k => F190c6 k s x3 (f : Int)) ((digs N, ()), ((), ())) := by
        intro f hf hf4
        have hsz : (s.extract 0 f).size = f := by simp; omega
        have hN : ∀ d : Nat, d ≤ 9999 → ∃ N : Nat, (digs N).length ≤ 1000 ∧ Ev (fun k => F190c2 k (s.extract 0 f) (x3 ++ [(d : Int)])) ((digs N, ()), ((), ())) := fun d hd =>
          ih f (by omega) (s.extract 0 f) (x3 ++ [(d : Int)]) (by omega) (fig_extract hs f) (inrSnoc hx (by omega)) (by simp; omega)
        -- which limb it is
        have hd : ∃ d : Nat, d ≤ 9999 ∧ ∀ R, (Ev (fun k => if (decide (x3.length + [(d : Int)].length ≤ 17592186044416)) = true then if (decide (0 ≤ (f : Int)) && decide ((f : Int) ≤ (s.size : Int))) = true then F190c2 k (s.extract 0 ((f : Int)).toNat) (x3 ++ [(d : Int)]) else none else none) R) → Ev (fun k => F190c6 k s x3 (f : Int)) R := by
          have walk : ∀ (m i d : Nat), i + m = s.size → f ≤ i → d < 10 ^ (i - f) → ∃ d' : Nat, d' ≤ 9999 ∧ ∀ R, (Ev (fun k => if (decide (x3.length + [(d' : Int)].length ≤ 17592186044416)) = true then if (decide (0 ≤ (f : Int)) && decide ((f : Int) ≤ (s.size : Int))) = true then F190c2 k (s.extract 0 ((f : Int)).toNat) (x3 ++ [(d' : Int)]) else none else none) R) → Ev (fun k => F190c8 k s x3 (f : Int) (d : Int) (i : Int)) R := by
            intro m
            induction m with
            | zero =>
              intro i d hi hfi hd
              have : 10 ^ (i - f) ≤ 10 ^ 4 := Nat.pow_le_pow_right (by omega) (by omega)
              refine ⟨d, by omega, fun R hR => Ev.step 1 (fun k => F190c8_eq k _ _ _ _ _) ?_⟩
              simp only [lt_false (show s.size ≤ i by omega), Bool.false_eq_true, if_false]
              exact hR
            | succ m ihm =>
              intro i d hi hfi hd
              have hlt : i < s.size := by omega
              have hfa := fig_at hs hlt
              have h4 : 10 ^ (i - f) ≤ 10 ^ 3 := Nat.pow_le_pow_right (by omega) (by omega)
              have e1 : IntKind.i64.wrap ((d : Int) * 10) = ((d * 10 : Nat) : Int) := by rw [wrap64 (by omega) (by omega)]; omega
              have e2 : IntKind.i64.wrap (((d * 10 : Nat) : Int) + ((s[i].toNat - 48 : Nat) : Int)) = ((d * 10 + (s[i].toNat - 48) : Nat) : Int) := by rw [wrap64 (by omega) (by omega)]; omega
              obtain ⟨d', h1, h2⟩ := ihm (i + 1) (d * 10 + (s[i].toNat - 48)) (by omega) (by omega) (by
                rw [show i + 1 - f = (i - f) + 1 by omega, Nat.pow_succ]
                omega)
              refine ⟨d', h1, fun R hR => Ev.step 1 (fun k => F190c8_eq k _ _ _ _ _) ?_⟩
              simp only [lt_true hlt, ge0, if_true, Int.toNat_natCast, byte_at hlt, Option.bind_some, figVal hfa, e1, e2, wrap_succ (show i < 9223372036854775807 by omega)]
              exact h2 R hR
          obtain ⟨d, h1, h2⟩ := walk (s.size - f) f 0 (by omega) (Nat.le_refl _) (by rw [Nat.sub_self]; decide)
          exact ⟨d, h1, fun R hR => Ev.step 1 (fun k => F190c6_eq k _ _ _) (h2 R hR)⟩
        obtain ⟨d, hd1, hd2⟩ := hd
        obtain ⟨N, hN1, hN⟩ := hN d hd1
        refine ⟨N, hN1, hd2 _ ?_⟩
        simp only [decide_eq_true (show x3.length + [(d : Int)].length ≤ 17592186044416 by simp; omega), if_true, ge0, le_true (Nat.le_of_lt hf), Bool.and_self, Int.toNat_natCast]
        exact hN
      have e4 : IntKind.i64.wrap ((s.size : Int) - 4) = (s.size : Int) - 4 := wrap64 (by omega) (by omega)
      by_cases h4 : s.size < 4
      · obtain ⟨N, hN1, hN⟩ := key 0 (by omega) (by omega)
        refine ⟨N, hN1, Ev.step 1 (fun k => F190c2_eq k _ _) ?_⟩
        simp only [hp, if_true, e4, decide_eq_true (show (s.size : Int) - 4 < 0 by omega)]
        exact hN
      · obtain ⟨N, hN1, hN⟩ := key (s.size - 4) (by omega) (by omega)
        refine ⟨N, hN1, Ev.step 1 (fun k => F190c2_eq k _ _) ?_⟩
        simp only [hp, if_true, e4, decide_eq_false (show ¬ (s.size : Int) - 4 < 0 by omega), Bool.false_eq_true, if_false]
        rw [show (s.size : Int) - 4 = ((s.size - 4 : Nat) : Int) by omega]
        exact hN
theorem ff_ev {s : ByteArray} (hs : Fig s) (hl : s.size ≤ 900) : ∃ N : Nat, (digs N).length ≤ 1000 ∧ Ev (fun k => F190 k s) ((digs N, ()), ((), ())) := by
  obtain ⟨N, h1, h⟩ := ffC s.size s [] (Nat.le_refl _) hs InR.nil (by simp; omega)
  exact ⟨N, h1, Ev.step 2 (fun k => F190_eq k _) h⟩
/-- a big integer in order, out of its number -/
theorem l1Big_any (neg : Bool) (N : Nat) (hl : (digs N).length ≤ 1000) : ∃ (z : Int) (ok : Bool), z.natAbs < 10000 ^ 16 ∧ Ev (fun k => F189 k neg (digs N)) (((decide (z < 0), digs z.natAbs, ()), ok, ()), ((), (), ())) := by
  have ht := l1Trim_ev (digs_InR N) (by omega)
  rw [VI_digs, Int.toNat_natCast] at ht
  by_cases h16 : (digs N).length > 16
  · refine ⟨0, false, by decide, Ev.step 2 (fun k => F189_eq k _ _) (Ev.bind ht ?_)⟩
    simp only [decide_eq_true (show ((digs N).length : Int) > 16 by omega), if_true]
    rw [show (0 : Int).natAbs = 0 from rfl, digs_zero]
    exact Ev.now _
  · have hN : N < 10000 ^ 16 := by
      have h1 := VI_lt (digs_InR N)
      rw [VI_digs] at h1
      have h2 : N < 10000 ^ (digs N).length := by
        have : ((N : Nat) : Int) < ((10000 ^ (digs N).length : Nat) : Int) := by rw [Int.natCast_pow]; exact h1
        omega
      have h3 : 10000 ^ (digs N).length ≤ 10000 ^ 16 := Nat.pow_le_pow_right (by omega) (by omega)
      omega
    refine ⟨sg neg N, true, by rw [sg_abs]; exact hN, Ev.step 2 (fun k => F189_eq k _ _) (Ev.bind ht ?_)⟩
    rw [sg_abs]
    simp only [decide_eq_false (show ¬ ((digs N).length : Int) > 16 by omega), Bool.false_eq_true, if_false, len_gt]
    cases neg with
    | true =>
      have e : decide (sg true N < 0) = decide (N ≠ 0) := by
        unfold sg
        simp only [if_true]
        congr 1
        exact propext ⟨fun h => by omega, fun h => by omega⟩
      simp only [if_true, e]
      exact Ev.now _
    | false =>
      have e : decide (sg false N < 0) = false := by unfold sg; simp
      simp only [Bool.false_eq_true, if_false, e]
      exact Ev.now _
/-! ### the reference's number of a whole number -/
theorem tmod_abs (x : Int) : (x.tmod 10000 < 0 → 0 - x.tmod 10000 = ((x.natAbs % 10000 : Nat) : Int)) ∧ (¬ x.tmod 10000 < 0 → x.tmod 10000 = ((x.natAbs % 10000 : Nat) : Int)) ∧ (x.tdiv 10000).natAbs = x.natAbs / 10000 ∧ -10000 < x.tmod 10000 ∧ x.tmod 10000 < 10000 := by
  rcases Int.natAbs_eq x with h | h
  · have h1 : x.tmod 10000 = ((x.natAbs % 10000 : Nat) : Int) := by
      rw [Int.tmod_eq_emod_of_nonneg (by omega)]; omega
    have h2 : x.tdiv 10000 = ((x.natAbs / 10000 : Nat) : Int) := by
      rw [Int.tdiv_eq_ediv_of_nonneg (by omega)]; omega
    rw [h1, h2]
    omega
  · have h1 : x.tmod 10000 = -((x.natAbs % 10000 : Nat) : Int) := by
      conv => lhs; rw [h]
      rw [Int.neg_tmod, Int.tmod_eq_emod_of_nonneg (by omega)]; omega
    have h2 : x.tdiv 10000 = -((x.natAbs / 10000 : Nat) : Int) := by
      conv => lhs; rw [h]
      rw [Int.neg_tdiv, Int.tdiv_eq_ediv_of_nonneg (by omega)]; omega
    rw [h1, h2]
    omega
theorem bofC {n : Int} {b : Bool} {l : List Int} : ∀ (m : Nat) (x3 : List Int) (x4 : Int), x4.natAbs ≤ m → m < 10000 ^ 4 → x3.length + (digs x4.natAbs).length ≤ 1000 →
    Ev (fun k => F153c3 k n b l x3 x4) (((decide (n < 0), x3 ++ digs x4.natAbs, ()), ()), ((), ())) := by
  intro m
  induction m using Nat.strongRecOn with
  | _ m ih =>
    intro x3 x4 hm hm2 hl
    have h44 : (10000 : Nat) ^ 4 = 10000000000000000 := by decide
    by_cases h0 : x4 = 0
    · subst h0
      refine Ev.step 1 (fun k => F153c3_eq k _ _ _ _ _) ?_
      simp only [bne_self_eq_false, Bool.false_eq_true, if_false]
      rw [show (0 : Int).natAbs = 0 from rfl, digs_zero, List.append_nil]
      exact Ev.now _
    · have hn : x4.natAbs ≠ 0 := by omega
      obtain ⟨t1, t2, t3, t4, t5⟩ := tmod_abs x4
      have e : digs x4.natAbs = ((x4.natAbs % 10000 : Nat) : Int) :: digs (x4.tdiv 10000).natAbs := by rw [digs_pos hn, t3]
      rw [e, List.length_cons] at hl
      have hw : IntKind.i64.wrap (x4.tdiv 10000) = x4.tdiv 10000 := wrap64 (by omega) (by omega)
      have next : Ev (fun k => F153c7 k n b l x3 x4 ((x4.natAbs % 10000 : Nat) : Int)) (((decide (n < 0), x3 ++ digs x4.natAbs, ()), ()), ((), ())) := by
        have h1 := ih (x4.tdiv 10000).natAbs (by omega) (x3 ++ [((x4.natAbs % 10000 : Nat) : Int)]) (x4.tdiv 10000) (Nat.le_refl _) (by omega) (by rw [List.length_append, List.length_singleton]; omega)
        rw [List.append_assoc, List.singleton_append, ← e] at h1
        refine Ev.step 1 (fun k => F153c7_eq k _ _ _ _ _ _) ?_
        simp only [decide_eq_true (show x3.length + [((x4.natAbs % 10000 : Nat) : Int)].length ≤ 17592186044416 by simp; omega), if_true, hw]
        exact h1
      refine Ev.step 1 (fun k => F153c3_eq k _ _ _ _ _) ?_
      simp only [show (x4 != 0) = true from by simpa using h0, if_true]
      by_cases hneg : x4.tmod 10000 < 0
      · have hw2 : IntKind.i64.wrap (0 - x4.tmod 10000) = ((x4.natAbs % 10000 : Nat) : Int) := by
          rw [wrap64 (by omega) (by omega)]
          exact t1 hneg
        simp only [decide_eq_true hneg, if_true, hw2]
        exact next
      · simp only [decide_eq_false hneg, Bool.false_eq_true, if_false]
        rw [t2 hneg]
        exact next
theorem BigOf_sp {n : Int} (h : n.natAbs < 10000 ^ 4) : Ev (fun k => F153 k n) (((decide (n < 0), digs n.natAbs, ()), ()), ((), ())) := by
  have := bofC (n := n) (b := false) (l := []) n.natAbs [] n (Nat.le_refl _) h (by have := digs_len_le h; simp; omega)
  rw [List.nil_append] at this
  exact Ev.step 2 (fun k => F153_eq k _) this
/-! ### drawn -/
section
variable {bs : List Int} (hb : Rd bs)
include hb
theorem bigC9 {p : Nat} (hp : p + 10 ≤ 1000000) {b : Bool} {l : List Int} {s : ByteArray} (hs : Fig s) (h64 : s.size ≤ 64) : ∃ (z : Int) (q : Nat), z.natAbs < 10000 ^ 16 ∧ q ≤ p + 10 ∧ Ev (fun k => F147c9 k bs (p : Int) b l s) (((decide (z < 0), digs z.natAbs, ()), ()), ((bs, (q : Int), ()), (), ())) := by
  obtain ⟨v, _, h1⟩ := pick_ev hb (show p ≤ 1000000000 by omega) 3
  obtain ⟨N, hN, h2⟩ := ff_ev hs (by omega)
  obtain ⟨z, ok, hz, h3⟩ := l1Big_any (v == 0) N hN
  refine ⟨z, p + 1, hz, by omega, Ev.step 1 (fun k => F147c9_eq k _ _ _ _ _) (Ev.bind h1 (Ev.bind h2 (Ev.bind h3 (Ev.now _))))⟩
theorem bigC7 {p : Nat} (hp : p + 20 ≤ 1000000) {b : Bool} {l : List Int} {n : Int} (h0 : 0 ≤ n) (hn : n ≤ 64) {s : ByteArray} (hs : Fig s) (h64 : s.size ≤ 64) : ∃ (z : Int) (q : Nat), z.natAbs < 10000 ^ 16 ∧ q ≤ p + 20 ∧ Ev (fun k => F147c7 k bs (p : Int) b l n s) (((decide (z < 0), digs z.natAbs, ()), ()), ((bs, (q : Int), ()), (), ())) := by
  obtain ⟨v, _, h1⟩ := pick_ev hb (show p ≤ 1000000000 by omega) 6
  cases hv : (v == (0 : Int)) with
  | true =>
    obtain ⟨t, ht, ht2, h2⟩ := l1Many_ev (a := ⟨#[57]⟩) (fig1 (d := 9) (by omega)) rfl (n := n) (by omega) (by omega)
    obtain ⟨z, q, hz, hq, h3⟩ := bigC9 (p := p + 1) hb (by omega) (b := b) (l := l) ht (by omega)
    refine ⟨z, q, hz, by omega, Ev.step 1 (fun k => F147c7_eq k _ _ _ _ _ _) (Ev.bind h1 ?_)⟩
    simp only [hv, if_true]
    exact Ev.bind h2 h3
  | false =>
    obtain ⟨z, q, hz, hq, h3⟩ := bigC9 (p := p + 1) hb (by omega) (b := b) (l := l) hs h64
    refine ⟨z, q, hz, by omega, Ev.step 1 (fun k => F147c7_eq k _ _ _ _ _ _) (Ev.bind h1 ?_)⟩
    simp only [hv, Bool.false_eq_true, if_false]
    exact h3
theorem bigC4 {p : Nat} (hp : p + 300 ≤ 1000000) {b : Bool} {l : List Int} {n : Int} (h0 : 0 ≤ n) (hn : n ≤ 64) : ∃ (z : Int) (q : Nat), z.natAbs < 10000 ^ 16 ∧ q ≤ p + 300 ∧ Ev (fun k => F147c4 k bs (p : Int) b l n) (((decide (z < 0), digs z.natAbs, ()), ()), ((bs, (q : Int), ()), (), ())) := by
  obtain ⟨t, q, hq, ht, ht64, h1⟩ := figs_ev hb h0 hn (p := p) (by omega)
  obtain ⟨v, _, h2⟩ := pick_ev hb (show q ≤ 1000000000 by omega) 6
  cases hv : (v == (0 : Int)) with
  | true =>
    have e : IntKind.i64.wrap (n - 1) = n - 1 := wrap64 (by omega) (by omega)
    obtain ⟨u, hu, hu2, h3⟩ := l1Many_ev (a := ⟨#[48]⟩) (fig1 (d := 0) (by omega)) rfl (n := n - 1) (by omega) (by omega)
    have hsz : ((⟨#[49]⟩ : ByteArray) ++ u).size = 1 + u.size := by rw [size_app]; rfl
    obtain ⟨z, q2, hz, hq2, h4⟩ := bigC7 (p := q + 1) hb (by omega) (b := b) (l := l) h0 hn (s := (⟨#[49]⟩ : ByteArray) ++ u) (Fig.app (fig1 (d := 1) (by omega)) hu) (by rw [hsz]; omega)
    refine ⟨z, q2, hz, by omega, Ev.step 1 (fun k => F147c4_eq k _ _ _ _ _) (Ev.bind h1 (Ev.bind h2 ?_))⟩
    have hble : Nat.ble ((⟨#[49]⟩ : ByteArray).size + u.size) 9223372036854775807 = true := Nat.ble_eq_true_of_le (by show 1 + u.size ≤ _; omega)
    simp only [hv, if_true, e]
    refine Ev.bind h3 ?_
    simp only [hble, if_true]
    exact h4
  | false =>
    obtain ⟨z, q2, hz, hq2, h4⟩ := bigC7 (p := q + 1) hb (by omega) (b := b) (l := l) h0 hn ht ht64
    refine ⟨z, q2, hz, by omega, Ev.step 1 (fun k => F147c4_eq k _ _ _ _ _) (Ev.bind h1 (Ev.bind h2 ?_))⟩
    simp only [hv, Bool.false_eq_true, if_false]
    exact h4
theorem l14Big_ev {p : Nat} (hp : p + 400 ≤ 1000000) {most : Int} (hm : 1 ≤ most) (hm2 : most ≤ 64) : ∃ (z : Int) (q : Nat), z.natAbs < 10000 ^ 16 ∧ q ≤ p + 400 ∧ Ev (fun k => F147 k bs (p : Int) most) (((decide (z < 0), digs z.natAbs, ()), ()), ((bs, (q : Int), ()), (), ())) := by
  obtain ⟨v, ⟨a0, a1, _⟩, h1⟩ := pick_ev hb (show p ≤ 1000000000 by omega) 64
  have a1 := a1 (by omega)
  have e1 : IntKind.i64.wrap (1 + v) = 1 + v := wrap64 (by omega) (by omega)
  obtain ⟨n, hn, h2⟩ := one_ev hb (show p + 1 ≤ 1000000000 by omega) [0, 1, 1, 2, 3, 4, 5, 8, 9, 12, 17, 29, 30, 31, 33, 63, 64, 1 + v] (by simp)
  have hn2 : 0 ≤ n ∧ n ≤ 64 := by
    simp only [List.mem_cons, List.not_mem_nil, or_false] at hn
    omega
  by_cases hg : n > most
  · obtain ⟨u, ⟨b0, b1, _⟩, h3⟩ := pick_ev hb (show p + 1 + 1 ≤ 1000000000 by omega) most
    have b1 := b1 hm
    have e2 : IntKind.i64.wrap (1 + u) = 1 + u := wrap64 (by omega) (by omega)
    obtain ⟨z, q, hz, hq, h4⟩ := bigC4 (p := p + 1 + 1 + 1) hb (by omega) (b := false) (l := []) (n := 1 + u) (by omega) (by omega)
    refine ⟨z, q, hz, by omega, Ev.step 2 (fun k => F147_eq k _ _ _) (Ev.bind h1 ?_)⟩
    simp only [e1]
    refine Ev.bind h2 ?_
    simp only [decide_eq_true hg, if_true]
    refine Ev.bind h3 ?_
    simp only [e2]
    exact h4
  · obtain ⟨z, q, hz, hq, h4⟩ := bigC4 (p := p + 1 + 1) hb (by omega) (b := false) (l := []) (n := n) (by omega) (by omega)
    refine ⟨z, q, hz, by omega, Ev.step 2 (fun k => F147_eq k _ _ _) (Ev.bind h1 ?_)⟩
    simp only [e1]
    refine Ev.bind h2 ?_
    simp only [decide_eq_false hg, Bool.false_eq_true, if_false]
    exact h4
end
end Go.Proofs.YtiojgdjpigcgaaaGreatDoor.R
end

section
/-! Rf: what the laws draw: decimals. -/
set_option autoImplicit false
set_option linter.unusedSimpArgs false
set_option linter.unusedVariables false
namespace Go.Proofs.YtiojgdjpigcgaaaGreatDoor.R
open Go.Rf
theorem Rd.of {code : List Int} (h : code.length ≤ 2000) (w : ∀ y ∈ code, 0 ≤ y ∧ y ≤ 255) : Rd code := ⟨h, w⟩
theorem open_ev (code : List Int) (w : ∀ y ∈ code, 0 ≤ y ∧ y ≤ 255) : ∃ bs, Rd bs ∧ Ev (fun k => F49 k code) (((bs, 0, ()), ()), ((), ())) := by
  by_cases h : code.length > 2000
  · refine ⟨code.take 2000, ⟨by simp; omega, fun y hy => w y (List.mem_of_mem_take hy)⟩, Ev.step 2 (fun k => F49_eq k _) ?_⟩
    simp only [decide_eq_true (show (code.length : Int) > 2000 by omega), if_true, show decide ((0 : Int) ≤ 2000) = true from rfl, decide_eq_true (show (2000 : Int) ≤ code.length by omega), Bool.and_self, slices0]
    exact Ev.step 1 (fun k => F49c3_eq k _) (Ev.now _)
  · refine ⟨code, ⟨by omega, w⟩, Ev.step 2 (fun k => F49_eq k _) ?_⟩
    simp only [decide_eq_false (show ¬ (code.length : Int) > 2000 by omega), Bool.false_eq_true, if_false]
    exact Ev.step 1 (fun k => F49c3_eq k _) (Ev.now _)
theorem z16 {z : Int} (h : z.natAbs < 10000 ^ 16) : (digs z.natAbs).length ≤ 16 := digs_len_le h
theorem anyC10 {bs : List Int} {p : Nat} {b1 b2 : Bool} {l1 : List Int} : ∀ (m : Nat) (l : List Int), l.length + m = max 17 l.length → l.length ≤ 17 → ∃ l' : List Int, l'.length ≤ 20 ∧ Ev (fun k => F148c10 k bs (p : Int) b1 l1 b2 l) (((b2, l', ()), ()), ((bs, (p : Int), ()), ())) := by
  intro m
  induction m with
  | zero =>
    intro l hm h17
    refine ⟨l, by omega, Ev.step 1 (fun k => F148c10_eq k _ _ _ _ _ _) ?_⟩
    simp only [decide_eq_false (show ¬ (l.length : Int) < 17 by omega), Bool.false_eq_true, if_false]
    exact Ev.step 1 (fun k => F148c12_eq k _ _ _ _ _ _) (Ev.now _)
  | succ m ih =>
    intro l hm h17
    have hl : (l ++ [(1 : Int)]).length = l.length + 1 := by simp
    obtain ⟨l', h1, h2⟩ := ih (l ++ [1]) (by omega) (by omega)
    refine ⟨l', h1, Ev.step 1 (fun k => F148c10_eq k _ _ _ _ _ _) ?_⟩
    simp only [decide_eq_true (show (l.length : Int) < 17 by omega), if_true, decide_eq_true (show l.length + [(1 : Int)].length ≤ 17592186044416 by simp; omega)]
    exact h2
section
variable {bs : List Int} (hb : Rd bs)
include hb
theorem anyBig_ev {p : Nat} (hp : p + 500 ≤ 1000000) : ∃ (n : Bool) (l : List Int) (q : Nat), l.length ≤ 100 ∧ q ≤ p + 500 ∧ Ev (fun k => F148 k bs (p : Int)) (((n, l, ()), ()), ((bs, (q : Int), ()), ())) := by
  obtain ⟨z, q, hz, hq, h1⟩ := l14Big_ev hb (p := p) (by omega) (most := 64) (by omega) (by omega)
  have hz := z16 hz
  obtain ⟨v, ⟨a0, a1, _⟩, h2⟩ := pick_ev hb (show q ≤ 1000000000 by omega) 30
  have st : ∀ {r}, Ev (fun k => if (v == (0 : Int)) = true then if (decide ((digs z.natAbs).length + [(0 : Int)].length ≤ 17592186044416)) = true then F148c12 k bs ((q + 1 : Nat) : Int) false ([] : List Int) (decide (z < 0)) (digs z.natAbs ++ [(0 : Int)]) else none else if (v == (1 : Int)) = true then (F54 k bs ((q + 1 : Nat) : Int) [(10000 : Int), (-1 : Int)]).bind fun r3 => if (decide ((digs z.natAbs).length + [r3.1.1].length ≤ 17592186044416)) = true then F148c12 k r3.2.1.1 r3.2.1.2.1 false ([] : List Int) (decide (z < 0)) (digs z.natAbs ++ [r3.1.1]) else none else if (v == (2 : Int)) = true then some (((true, ([] : List Int), ()), ()), ((bs, ((q + 1 : Nat) : Int), ()), ())) else if (v == (3 : Int)) = true then F148c10 k bs ((q + 1 : Nat) : Int) false ([] : List Int) (decide (z < 0)) (digs z.natAbs) else F148c12 k bs ((q + 1 : Nat) : Int) false ([] : List Int) (decide (z < 0)) (digs z.natAbs)) r → Ev (fun k => F148 k bs (p : Int)) r := fun h => Ev.step 2 (fun k => F148_eq k _ _) (Ev.bind h1 (Ev.bind h2 h))
  have c12 : ∀ {q' : Nat} {l : List Int}, Ev (fun k => F148c12 k bs (q' : Int) false ([] : List Int) (decide (z < 0)) l) (((decide (z < 0), l, ()), ()), ((bs, (q' : Int), ()), ())) := fun {q' l} => Ev.step 1 (fun k => F148c12_eq k _ _ _ _ _ _) (Ev.now _)
  cases c0 : (v == (0 : Int)) with
  | true =>
    refine ⟨decide (z < 0), digs z.natAbs ++ [0], q + 1, by simp; omega, by omega, st ?_⟩
    simp only [c0, if_true, decide_eq_true (show (digs z.natAbs).length + [(0 : Int)].length ≤ 17592186044416 by simp; omega)]
    exact c12
  | false =>
    cases c1 : (v == (1 : Int)) with
    | true =>
      obtain ⟨u, _, h3⟩ := one_ev hb (show q + 1 ≤ 1000000000 by omega) [10000, -1] (by simp)
      refine ⟨decide (z < 0), digs z.natAbs ++ [u], q + 1 + 1, by simp; omega, by omega, st ?_⟩
      simp only [c0, c1, Bool.false_eq_true, if_false, if_true]
      refine Ev.bind h3 ?_
      simp only [decide_eq_true (show (digs z.natAbs).length + [u].length ≤ 17592186044416 by simp; omega), if_true]
      exact c12
    | false =>
      cases c2 : (v == (2 : Int)) with
      | true =>
        refine ⟨true, [], q + 1, by simp, by omega, st ?_⟩
        simp only [c0, c1, c2, Bool.false_eq_true, if_false, if_true]
        exact Ev.now _
      | false =>
        cases c3 : (v == (3 : Int)) with
        | true =>
          obtain ⟨l', hl', h3⟩ := anyC10 (bs := bs) (p := q + 1) (b1 := false) (b2 := decide (z < 0)) (l1 := []) (17 - (digs z.natAbs).length) (digs z.natAbs) (by omega) (by omega)
          refine ⟨decide (z < 0), l', q + 1, by omega, by omega, st ?_⟩
          simp only [c0, c1, c2, c3, Bool.false_eq_true, if_false, if_true]
          exact h3
        | false =>
          refine ⟨decide (z < 0), digs z.natAbs, q + 1, by omega, by omega, st ?_⟩
          simp only [c0, c1, c2, c3, Bool.false_eq_true, if_false]
          exact c12
/-- a decimal in order, but for its figures -/
theorem l14Dec_ev {p : Nat} (hp : p + 600 ≤ 1000000) : ∃ (z : Int) (s q : Nat), z.natAbs < 10000 ^ 16 ∧ s ≤ 12 ∧ q ≤ p + 600 ∧ Ev (fun k => F112 k bs (p : Int)) (((decide (z < 0), digs z.natAbs, (s : Int), ()), ()), ((bs, (q : Int), ()), ())) := by
  obtain ⟨v, ⟨a0, a1, _⟩, h1⟩ := pick_ev hb (show p ≤ 1000000000 by omega) 13
  have a1 := a1 (by omega)
  obtain ⟨s, hs, h2⟩ := one_ev hb (show p + 1 ≤ 1000000000 by omega) [0, 0, 1, 2, 2, 3, 6, 12, v] (by simp)
  have hs2 : 0 ≤ s ∧ s ≤ 12 := by
    simp only [List.mem_cons, List.not_mem_nil, or_false] at hs
    omega
  obtain ⟨t, rfl⟩ : ∃ t : Nat, s = (t : Int) := ⟨s.toNat, by omega⟩
  obtain ⟨u, ⟨b0, b1, _⟩, h3⟩ := pick_ev hb (show p + 1 + 1 ≤ 1000000000 by omega) 5
  have h16 : (10000 : Nat) ^ 4 ≤ 10000 ^ 16 := Nat.pow_le_pow_right (by omega) (by omega)
  have h44 : (10000 : Nat) ^ 4 = 10000000000000000 := by decide
  cases c0 : (u == (0 : Int)) with
  | true =>
    obtain ⟨x, ⟨d0, d1, _⟩, h4⟩ := pick_ev hb (show p + 1 + 1 + 1 ≤ 1000000000 by omega) 200
    have d1 := d1 (by omega)
    have e : IntKind.i64.wrap (x - 100) = x - 100 := wrap64 (by omega) (by omega)
    have h5 := BigOf_sp (n := x - 100) (by omega)
    refine ⟨x - 100, t, p + 1 + 1 + 1 + 1, by omega, by omega, by omega, Ev.step 2 (fun k => F112_eq k _ _) (Ev.bind h1 (Ev.bind h2 (Ev.bind h3 ?_)))⟩
    simp only [c0, if_true]
    refine Ev.bind h4 ?_
    simp only [e]
    exact Ev.bind h5 (Ev.now _)
  | false =>
    cases c1 : (u == (1 : Int)) with
    | true =>
      obtain ⟨x, hx, h4⟩ := one_ev hb (show p + 1 + 1 + 1 ≤ 1000000000 by omega) [5, 15, 25, 35, 45, -5, -15, -25, 50, 150, 250, 499, 500, 501, -500, 1500, 2500, -2500, 1000, 20] (by simp)
      have hx2 : -2500 ≤ x ∧ x ≤ 2500 := by
        simp only [List.mem_cons, List.not_mem_nil, or_false] at hx
        omega
      have h5 := BigOf_sp (n := x) (by omega)
      refine ⟨x, t, p + 1 + 1 + 1 + 1, by omega, by omega, by omega, Ev.step 2 (fun k => F112_eq k _ _) (Ev.bind h1 (Ev.bind h2 (Ev.bind h3 ?_)))⟩
      simp only [c0, c1, Bool.false_eq_true, if_false, if_true]
      exact Ev.bind h4 (Ev.bind h5 (Ev.now _))
    | false =>
      cases c2 : (u == (2 : Int)) with
      | true =>
        obtain ⟨z, q, hz, hq, h4⟩ := l14Big_ev hb (p := p + 1 + 1 + 1) (by omega) (most := 8) (by omega) (by omega)
        refine ⟨z, t, q, hz, by omega, by omega, Ev.step 2 (fun k => F112_eq k _ _) (Ev.bind h1 (Ev.bind h2 (Ev.bind h3 ?_)))⟩
        simp only [c0, c1, c2, Bool.false_eq_true, if_false, if_true]
        exact Ev.bind h4 (Ev.now _)
      | false =>
        obtain ⟨z, q, hz, hq, h4⟩ := l14Big_ev hb (p := p + 1 + 1 + 1) (by omega) (most := 30) (by omega) (by omega)
        refine ⟨z, t, q, hz, by omega, by omega, Ev.step 2 (fun k => F112_eq k _ _) (Ev.bind h1 (Ev.bind h2 (Ev.bind h3 ?_)))⟩
        simp only [c0, c1, c2, Bool.false_eq_true, if_false]
        exact Ev.bind h4 (Ev.now _)
theorem anyDec_ev {p : Nat} (hp : p + 1300 ≤ 1000000) : ∃ (n : Bool) (l : List Int) (s : Int) (q : Nat), l.length ≤ 100 ∧ q ≤ p + 1300 ∧ Ev (fun k => F102 k bs (p : Int)) (((n, l, s, ()), ()), ((bs, (q : Int), ()), ())) := by
  obtain ⟨z, s, q, hz, hs, hq, h1⟩ := l14Dec_ev hb (p := p) (by omega)
  have hz16 := z16 hz
  obtain ⟨v, _, h2⟩ := pick_ev hb (show q ≤ 1000000000 by omega) 30
  have c9 : ∀ {q' : Nat} {n : Bool} {l : List Int} {s : Int}, Ev (fun k => F102c9 k bs (q' : Int) false ([] : List Int) (0 : Int) n l s) (((n, l, s, ()), ()), ((bs, (q' : Int), ()), ())) := fun {q' n l s} => Ev.step 1 (fun k => F102c9_eq k _ _ _ _ _ _ _ _) (Ev.now _)
  cases c0 : (v == (0 : Int)) with
  | true =>
    obtain ⟨u, _, h3⟩ := one_ev hb (show q + 1 ≤ 1000000000 by omega) [-1, 13, 4611686018427387904] (by simp)
    refine ⟨decide (z < 0), digs z.natAbs, u, q + 1 + 1, by omega, by omega, Ev.step 2 (fun k => F102_eq k _ _) (Ev.bind h1 (Ev.bind h2 ?_))⟩
    simp only [c0, if_true]
    exact Ev.bind h3 c9
  | false =>
    cases c1 : (v == (1 : Int)) with
    | true =>
      obtain ⟨y, q2, hy, hq2, h3⟩ := l14Big_ev hb (p := q + 1) (by omega) (most := 31) (by omega) (by omega)
      have hy := z16 hy
      refine ⟨decide (y < 0), digs y.natAbs, (s : Int), q2, by omega, by omega, Ev.step 2 (fun k => F102_eq k _ _) (Ev.bind h1 (Ev.bind h2 ?_))⟩
      simp only [c0, c1, Bool.false_eq_true, if_false, if_true]
      exact Ev.bind h3 c9
    | false =>
      cases c2 : (v == (2 : Int)) with
      | true =>
        obtain ⟨n, l, q2, hl, hq2, h3⟩ := anyBig_ev hb (p := q + 1) (by omega)
        refine ⟨n, l, (s : Int), q2, by omega, by omega, Ev.step 2 (fun k => F102_eq k _ _) (Ev.bind h1 (Ev.bind h2 ?_))⟩
        simp only [c0, c1, c2, Bool.false_eq_true, if_false, if_true]
        exact Ev.bind h3 c9
      | false =>
        refine ⟨decide (z < 0), digs z.natAbs, (s : Int), q + 1, by omega, by omega, Ev.step 2 (fun k => F102_eq k _ _) (Ev.bind h1 (Ev.bind h2 ?_))⟩
        simp only [c0, c1, c2, Bool.false_eq_true, if_false]
        exact c9
end
theorem trim_sp {n : Bool} {l : List Int} {s0 : Int} : ∀ (s V : Nat), s ≤ 12 → (digs V).length ≤ 16 → ((digs (trimN V s).1).length ≤ 16 ∧
    Ev (fun k => F191c3 k n l s0 false ([] : List Int) (0 : Int) (digs V) (s : Int)) (((n, digs (trimN V s).1, ((trimN V s).2 : Int), ()), ()), (((), (), (), ()), ()))) := by
  have ht : ∀ {V : Nat}, (digs V).length ≤ 16 → Ev (fun k => F224 k (digs V)) ((digs V, ()), ((), ())) := fun {V} h => by
    have := l1Trim_ev (digs_InR V) (by omega)
    rwa [VI_digs, Int.toNat_natCast] at this
  intro s
  induction s with
  | zero =>
    intro V _ hl
    refine ⟨hl, Ev.step 1 (fun k => F191c3_eq k _ _ _ _ _ _ _ _) ?_⟩
    simp only [show decide (((0 : Nat) : Int) > 0) = false from by decide, Bool.false_eq_true, if_false]
    exact Ev.bind (ht hl) (Ev.now _)
  | succ s ih =>
    intro V hs hl
    have c : decide (((s + 1 : Nat) : Int) > 0) = true := decide_eq_true (by omega)
    have d2 := l1DivAbs_ev (digs_InR V) (b := [10]) (InR.one (by omega)) (by omega) (by simp) (VI_digs V) (B := 10) (VI_one 10) (by omega)
    have e1 : IntKind.i64.wrap (((s + 1 : Nat) : Int) - 1) = (s : Int) := by rw [wrap64 (by omega) (by omega)]; omega
    by_cases h : V % 10 = 0
    · obtain ⟨i1, i3⟩ := ih (V / 10) (by omega) (div10_len hl)
      have et : trimN V (s + 1) = trimN (V / 10) s := by rw [trimN, if_pos h]
      rw [et]
      refine ⟨i1, Ev.step 1 (fun k => F191c3_eq k _ _ _ _ _ _ _ _) ?_⟩
      simp only [c, if_true]
      refine Ev.bind d2 ?_
      simp only [len_gt, h, ne_eq, not_true_eq_false, decide_false, Bool.false_eq_true, if_false, e1]
      exact i3
    · have et : trimN V (s + 1) = (V, s + 1) := by rw [trimN, if_neg h]
      rw [et]
      refine ⟨hl, Ev.step 1 (fun k => F191c3_eq k _ _ _ _ _ _ _ _) ?_⟩
      simp only [c, if_true]
      refine Ev.bind d2 ?_
      simp only [len_gt, h, ne_eq, not_false_eq_true, decide_true, if_true]
      exact Ev.bind (ht hl) (Ev.now _)
end Go.Proofs.YtiojgdjpigcgaaaGreatDoor.R
end

section
/-! Rf: what the laws draw: values. -/
set_option autoImplicit false
set_option linter.unusedSimpArgs false
set_option linter.unusedVariables false
namespace Go.Proofs.YtiojgdjpigcgaaaGreatDoor.R
open Go.Rf
theorem leap_ev (a : Int) : ∃ b : Bool, Ev (fun k => F226 k a) ((b, ()), ((), ())) := by
  by_cases h1 : a.tmod 4 = 0
  · by_cases h2 : a.tmod 100 = 0
    · refine ⟨a.tmod 400 == 0, Ev.step 2 (fun k => F226_eq k _) ?_⟩
      simp only [h1, h2, beq_self_eq_true, bne_self_eq_false, Bool.false_eq_true, if_true, if_false]
      exact Ev.now _
    · refine ⟨true, Ev.step 2 (fun k => F226_eq k _) ?_⟩
      simp only [h1, bne_iff_ne.2 h2, beq_self_eq_true, if_true]
      exact Ev.now _
  · refine ⟨a.tmod 400 == 0, Ev.step 2 (fun k => F226_eq k _) ?_⟩
    simp only [beq_eq_false_iff_ne.2 h1, Bool.false_eq_true, if_false]
    exact Ev.now _
theorem last_ev (y m : Int) : ∃ v : Int, Ev (fun k => F194 k y m) ((v, ()), ((), (), ())) := by
  by_cases h2 : m = 2
  · obtain ⟨b, hb⟩ := leap_ev y
    refine ⟨if b = true then 29 else 28, Ev.step 2 (fun k => F194_eq k _ _) ?_⟩
    simp only [h2, beq_self_eq_true, if_true]
    refine Ev.bind hb ?_
    cases b
    · simp only [Bool.false_eq_true, if_false]; exact Ev.now _
    · simp only [if_true]; exact Ev.now _
  have g2 := beq_eq_false_iff_ne.2 h2
  by_cases h : m = 4 ∨ m = 6 ∨ m = 9 ∨ m = 11
  · refine ⟨30, Ev.step 2 (fun k => F194_eq k _ _) ?_⟩
    rcases h with rfl | rfl | rfl | rfl
    · exact Ev.now _
    · exact Ev.now _
    · exact Ev.now _
    · exact Ev.now _
  · refine ⟨31, Ev.step 2 (fun k => F194_eq k _ _) ?_⟩
    simp only [g2, beq_eq_false_iff_ne.2 (show m ≠ 4 by omega), beq_eq_false_iff_ne.2 (show m ≠ 6 by omega), beq_eq_false_iff_ne.2 (show m ≠ 9 by omega), beq_eq_false_iff_ne.2 (show m ≠ 11 by omega), Bool.false_eq_true, if_false]
    exact Ev.step 1 (fun k => F194c11_eq k) (Ev.now _)
theorem ofC {y m : Int} (hm : m ≤ 100) : ∀ (n : Nat) (i x : Int), m ≤ i + n → 1 ≤ i → i ≤ 100 → ∃ v : Int, Ev (fun k => F154c3 k y m x i) ((v, ()), ((), (), (), ()))
  | 0, i, x, h, _, _ => by
    refine ⟨x, Ev.step 1 (fun k => F154c3_eq k _ _ _ _) ?_⟩
    simp only [decide_eq_false (show ¬ i < m by omega), Bool.false_eq_true, if_false]
    exact Ev.now _
  | n + 1, i, x, h, h1, h2 => by
    by_cases hi : i < m
    · obtain ⟨u, hu⟩ := last_ev y i
      obtain ⟨v, hv⟩ := ofC hm n (i + 1) (IntKind.i64.wrap (x + u)) (by omega) (by omega) (by omega)
      refine ⟨v, Ev.step 1 (fun k => F154c3_eq k _ _ _ _) ?_⟩
      simp only [decide_eq_true hi, if_true, wrap64 (show -9223372036854775808 ≤ i + 1 by omega) (by omega)]
      exact Ev.bind hu hv
    · refine ⟨x, Ev.step 1 (fun k => F154c3_eq k _ _ _ _) ?_⟩
      simp only [decide_eq_false hi, Bool.false_eq_true, if_false]
      exact Ev.now _
theorem l3Of_ev (y m d : Int) (hm : m ≤ 100) : ∃ v : Int, Ev (fun k => F154 k y m d) ((v, ()), ((), (), (), ())) := by
  have hb : ∃ u : Int, Ev (fun k => F193 k y) ((u, ()), ((), ())) := ⟨_, Ev.step 2 (fun k => F193_eq k _) (Ev.now _)⟩
  obtain ⟨u, hu⟩ := hb
  obtain ⟨v, hv⟩ := ofC (y := y) (m := m) hm 200 1 (IntKind.i64.wrap (u + d)) (by omega) (by omega) (by omega)
  exact ⟨v, Ev.step 2 (fun k => F154_eq k _ _ _) (Ev.bind hu hv)⟩
section
variable {bs : List Int} (hb : Rd bs)
include hb
theorem of_ev {p : Nat} (hp : p ≤ 1000000000) (l : List ByteArray) (hl : 0 < l.length) (hl2 : l.length ≤ 1000) : ∃ v ∈ l, Ev (fun k => F101 k bs (p : Int) l) ((v, ()), ((bs, ((p + 1 : Nat) : Int), ()), (), ())) := by
  obtain ⟨v, ⟨h0, h1, _⟩, h2⟩ := pick_ev hb hp (l.length : Int)
  have h1 := h1 (by omega)
  obtain ⟨y, hy⟩ : ∃ y, l[v.toNat]? = some y := ⟨_, List.getElem?_eq_getElem (by omega)⟩
  refine ⟨y, List.mem_of_getElem? hy, Ev.step 2 (fun k => F101_eq k _ _ _) (Ev.bind h2 ?_)⟩
  simp only [decide_eq_true h0, decide_eq_true h1, Bool.and_self, if_true, hy, Option.bind_some]
  exact Ev.now _
theorem day_ev {p : Nat} (hp : p + 10 ≤ 1000000) : ∃ (v : Int) (q : Nat), q ≤ p + 10 ∧ Ev (fun k => F113 k bs (p : Int)) ((v, ()), ((bs, (q : Int), ()), ())) := by
  obtain ⟨v, ⟨v0, v1, _⟩, h1⟩ := pick_ev hb (show p ≤ 1000000000 by omega) 6
  by_cases c0 : v = 0
  · obtain ⟨u, _, h2⟩ := one_ev hb (show p + 1 ≤ 1000000000 by omega) [1, 2, 31, 59, 60, 3652059, 3652058, 366] (by simp)
    refine ⟨u, p + 1 + 1, by omega, Ev.step 2 (fun k => F113_eq k _ _) (Ev.bind h1 ?_)⟩
    simp only [c0, beq_self_eq_true, if_true]
    exact Ev.bind h2 (Ev.now _)
  by_cases c1 : v = 1
  · obtain ⟨u, _, h2⟩ := one_ev hb (show p + 1 ≤ 1000000000 by omega) [4, 1900, 2000, 2023, 2024, 2100, 9999] (by simp)
    obtain ⟨u2, hu2, h3⟩ := one_ev hb (show p + 1 + 1 ≤ 1000000000 by omega) [1, 2, 2, 3, 12] (by simp)
    obtain ⟨w, h4⟩ := l3Of_ev u u2 28 (by simp at hu2; omega)
    refine ⟨w, p + 1 + 1 + 1, by omega, Ev.step 2 (fun k => F113_eq k _ _) (Ev.bind h1 ?_)⟩
    simp only [c1, show ((1 : Int) == 0) = false from rfl, beq_self_eq_true, Bool.false_eq_true, if_false, if_true]
    exact Ev.bind h2 (Ev.bind h3 (Ev.bind h4 (Ev.now _)))
  by_cases c2 : v = 2
  · obtain ⟨u, _, h2⟩ := one_ev hb (show p + 1 ≤ 1000000000 by omega) [4, 2000, 2024, 9996] (by simp)
    obtain ⟨w, h4⟩ := l3Of_ev u 2 29 (by omega)
    refine ⟨w, p + 1 + 1, by omega, Ev.step 2 (fun k => F113_eq k _ _) (Ev.bind h1 ?_)⟩
    simp only [c2, show ((2 : Int) == 0) = false from rfl, show ((2 : Int) == 1) = false from rfl, beq_self_eq_true, Bool.false_eq_true, if_false, if_true]
    exact Ev.bind h2 (Ev.bind h4 (Ev.now _))
  by_cases c3 : v = 3
  · obtain ⟨u, _, h2⟩ := one_ev hb (show p + 1 ≤ 1000000000 by omega) [1, 2023, 2024, 9999] (by simp)
    obtain ⟨u2, hu2, h3⟩ := one_ev hb (show p + 1 + 1 ≤ 1000000000 by omega) [1, 3, 5, 8, 10, 12] (by simp)
    obtain ⟨w, h4⟩ := l3Of_ev u u2 31 (by simp at hu2; omega)
    refine ⟨w, p + 1 + 1 + 1, by omega, Ev.step 2 (fun k => F113_eq k _ _) (Ev.bind h1 ?_)⟩
    simp only [c3, show ((3 : Int) == 0) = false from rfl, show ((3 : Int) == 1) = false from rfl, show ((3 : Int) == 2) = false from rfl, beq_self_eq_true, Bool.false_eq_true, if_false, if_true]
    exact Ev.bind h2 (Ev.bind h3 (Ev.bind h4 (Ev.now _)))
  · obtain ⟨u, ⟨u0, u1, _⟩, h2⟩ := pick_ev hb (show p + 1 ≤ 1000000000 by omega) 8
    obtain ⟨u', ⟨u0', u1', _⟩, h3⟩ := pick_ev hb (show p + 1 + 1 ≤ 1000000000 by omega) 12
    obtain ⟨w, _, h4⟩ := pick_ev hb (show p + 1 + 1 + 1 ≤ 1000000000 by omega) 28
    have u1' := u1' (by omega)
    obtain ⟨d, h5⟩ := l3Of_ev (IntKind.i64.wrap (2020 + u)) (IntKind.i64.wrap (1 + u')) (IntKind.i64.wrap (1 + w)) (by rw [wrap64 (by omega) (by omega)]; omega)
    refine ⟨d, p + 1 + 1 + 1 + 1, by omega, Ev.step 2 (fun k => F113_eq k _ _) (Ev.bind h1 ?_)⟩
    simp only [beq_eq_false_iff_ne.2 c0, beq_eq_false_iff_ne.2 c1, beq_eq_false_iff_ne.2 c2, beq_eq_false_iff_ne.2 c3, Bool.false_eq_true, if_false]
    exact Ev.bind h2 (Ev.bind h3 (Ev.bind h4 (Ev.bind h5 (Ev.now _))))
theorem span_ev {p : Nat} (hp : p + 10 ≤ 1000000) : ∃ (m d : Int) (q : Nat), q ≤ p + 10 ∧ Ev (fun k => F114 k bs (p : Int)) (((m, d, ()), ()), ((bs, (q : Int), ()), ())) := by
  obtain ⟨v, ⟨v0, v1, _⟩, h1⟩ := pick_ev hb (show p ≤ 1000000000 by omega) 5
  by_cases c0 : v = 0
  · obtain ⟨u, _, h2⟩ := one_ev hb (show p + 1 ≤ 1000000000 by omega) [0, 120000, -120000, 119987, -119988] (by simp)
    obtain ⟨u2, _, h3⟩ := one_ev hb (show p + 1 + 1 ≤ 1000000000 by omega) [0, 4000000, -4000000] (by simp)
    refine ⟨u, u2, p + 1 + 1 + 1, by omega, Ev.step 2 (fun k => F114_eq k _ _) (Ev.bind h1 ?_)⟩
    simp only [c0, beq_self_eq_true, if_true]
    exact Ev.bind h2 (Ev.bind h3 (Ev.now _))
  by_cases c1 : v = 1
  · obtain ⟨u, _, h2⟩ := pick_ev hb (show p + 1 ≤ 1000000000 by omega) 30
    refine ⟨IntKind.i64.wrap (u - 15), 0, p + 1 + 1, by omega, Ev.step 2 (fun k => F114_eq k _ _) (Ev.bind h1 ?_)⟩
    simp only [c1, show ((1 : Int) == 0) = false from rfl, beq_self_eq_true, Bool.false_eq_true, if_false, if_true]
    exact Ev.bind h2 (Ev.now _)
  by_cases c2 : v = 2
  · obtain ⟨u, _, h2⟩ := pick_ev hb (show p + 1 ≤ 1000000000 by omega) 80
    refine ⟨0, IntKind.i64.wrap (u - 40), p + 1 + 1, by omega, Ev.step 2 (fun k => F114_eq k _ _) (Ev.bind h1 ?_)⟩
    simp only [c2, show ((2 : Int) == 0) = false from rfl, show ((2 : Int) == 1) = false from rfl, beq_self_eq_true, Bool.false_eq_true, if_false, if_true]
    exact Ev.bind h2 (Ev.now _)
  · obtain ⟨u, _, h2⟩ := pick_ev hb (show p + 1 ≤ 1000000000 by omega) 60
    obtain ⟨u2, _, h3⟩ := pick_ev hb (show p + 1 + 1 ≤ 1000000000 by omega) 60
    refine ⟨IntKind.i64.wrap (u - 30), IntKind.i64.wrap (u2 - 30), p + 1 + 1 + 1, by omega, Ev.step 2 (fun k => F114_eq k _ _) (Ev.bind h1 ?_)⟩
    simp only [beq_eq_false_iff_ne.2 c0, beq_eq_false_iff_ne.2 c1, beq_eq_false_iff_ne.2 c2, Bool.false_eq_true, if_false]
    exact Ev.bind h2 (Ev.bind h3 (Ev.now _))
theorem word_ev {p : Nat} (hp : p + 10 ≤ 1000000) : ∃ t : ByteArray, t.size ≤ 100 ∧ Ev (fun k => F115 k bs (p : Int)) ((t, ()), ((bs, ((p + 1 : Nat) : Int), ()), ())) := by
  obtain ⟨t, ht, h1⟩ := of_ev hb (show p ≤ 1000000000 by omega) [(⟨#[]⟩ : ByteArray), (⟨#[97]⟩ : ByteArray), (⟨#[98]⟩ : ByteArray), (⟨#[97, 98]⟩ : ByteArray), (⟨#[105, 116, 39, 115]⟩ : ByteArray), (⟨#[39, 39]⟩ : ByteArray), (⟨#[122, 32, 122]⟩ : ByteArray), (⟨#[116, 114, 117, 101]⟩ : ByteArray), (⟨#[49, 50]⟩ : ByteArray), (⟨#[49, 46, 53, 48]⟩ : ByteArray), (⟨#[50, 48, 50, 52, 45, 48, 50, 45, 50, 57]⟩ : ByteArray), (⟨#[126, 126, 126, 126, 126, 126, 126, 126, 126, 126, 126, 126]⟩ : ByteArray), (⟨#[51, 109, 45, 52, 100]⟩ : ByteArray), (⟨#[65]⟩ : ByteArray)] (by simp) (by simp)
  refine ⟨t, ?_, Ev.step 2 (fun k => F115_eq k _ _) (Ev.bind h1 (Ev.now _))⟩
  simp only [List.mem_cons, List.not_mem_nil, or_false] at ht
  rcases ht with rfl | rfl | rfl | rfl | rfl | rfl | rfl | rfl | rfl | rfl | rfl | rfl | rfl | rfl <;> decide
theorem anyDay_ev {p : Nat} (hp : p + 20 ≤ 1000000) : ∃ (v : Int) (q : Nat), q ≤ p + 20 ∧ Ev (fun k => F103 k bs (p : Int)) ((v, ()), ((bs, (q : Int), ()), ())) := by
  obtain ⟨v, _, h1⟩ := pick_ev hb (show p ≤ 1000000000 by omega) 20
  by_cases c0 : v = 0
  · obtain ⟨u, _, h2⟩ := one_ev hb (show p + 1 ≤ 1000000000 by omega) [0, -1, 3652060] (by simp)
    refine ⟨u, p + 1 + 1, by omega, Ev.step 2 (fun k => F103_eq k _ _) (Ev.bind h1 ?_)⟩
    simp only [c0, beq_self_eq_true, if_true]
    exact Ev.bind h2 (Ev.now _)
  · obtain ⟨u, q, hq, h2⟩ := day_ev hb (p := p + 1) (by omega)
    refine ⟨u, q, by omega, Ev.step 2 (fun k => F103_eq k _ _) (Ev.bind h1 ?_)⟩
    simp only [beq_eq_false_iff_ne.2 c0, Bool.false_eq_true, if_false]
    exact Ev.bind h2 (Ev.now _)
theorem anySpan_ev {p : Nat} (hp : p + 20 ≤ 1000000) : ∃ (m d : Int) (q : Nat), q ≤ p + 20 ∧ Ev (fun k => F104 k bs (p : Int)) (((m, d, ()), ()), ((bs, (q : Int), ()), ())) := by
  obtain ⟨m, d, q, hq, h1⟩ := span_ev hb (p := p) (by omega)
  have c4 : ∀ (q : Nat) (x y m : Int), q + 3 ≤ 1000000 → ∃ (m' d' : Int) (q' : Nat), q' ≤ q + 3 ∧ Ev (fun k => F104c4 k bs (q : Int) x y m d) (((m', d', ()), ()), ((bs, (q' : Int), ()), ())) := fun q x y m hq => by
    obtain ⟨v, _, h2⟩ := pick_ev hb (show q ≤ 1000000000 by omega) 20
    by_cases c0 : v = 0
    · obtain ⟨u, _, h3⟩ := one_ev hb (show q + 1 ≤ 1000000000 by omega) [4000001, -4000001] (by simp)
      refine ⟨m, u, q + 1 + 1, by omega, Ev.step 1 (fun k => F104c4_eq k _ _ _ _ _ _) (Ev.bind h2 ?_)⟩
      simp only [c0, beq_self_eq_true, if_true]
      exact Ev.bind h3 (Ev.step 1 (fun k => F104c6_eq k _ _ _ _ _ _) (Ev.now _))
    · refine ⟨m, d, q + 1, by omega, Ev.step 1 (fun k => F104c4_eq k _ _ _ _ _ _) (Ev.bind h2 ?_)⟩
      simp only [beq_eq_false_iff_ne.2 c0, Bool.false_eq_true, if_false]
      exact Ev.step 1 (fun k => F104c6_eq k _ _ _ _ _ _) (Ev.now _)
  obtain ⟨v, _, h2⟩ := pick_ev hb (show q ≤ 1000000000 by omega) 20
  by_cases c0 : v = 0
  · obtain ⟨u, _, h3⟩ := one_ev hb (show q + 1 ≤ 1000000000 by omega) [120001, -120001] (by simp)
    obtain ⟨m', d', q', hq', h4⟩ := c4 (q + 1 + 1) 0 0 u (by omega)
    refine ⟨m', d', q', by omega, Ev.step 2 (fun k => F104_eq k _ _) (Ev.bind h1 (Ev.bind h2 ?_))⟩
    simp only [c0, beq_self_eq_true, if_true]
    exact Ev.bind h3 h4
  · obtain ⟨m', d', q', hq', h4⟩ := c4 (q + 1) 0 0 m (by omega)
    refine ⟨m', d', q', by omega, Ev.step 2 (fun k => F104_eq k _ _) (Ev.bind h1 (Ev.bind h2 ?_))⟩
    simp only [beq_eq_false_iff_ne.2 c0, Bool.false_eq_true, if_false]
    exact h4
theorem valueOf_ev {p : Nat} (hp : p + 700 ≤ 1000000) (kd : Int) : ∃ (k0 : Int) (y n : Bool) (l : List Int) (s day mo da : Int) (t : ByteArray) (q : Nat), l.length ≤ 100 ∧ t.size ≤ 100 ∧ q ≤ p + 700 ∧ Ev (fun k => F70 k bs (p : Int) kd) (((k0, y, n, l, s, day, mo, da, t, ()), ()), ((bs, (q : Int), ()), (), ())) := by
  by_cases c1 : kd = 1
  · obtain ⟨v, _, h1⟩ := pick_ev hb (show p ≤ 1000000000 by omega) 2
    refine ⟨1, (v == 0), false, [], 0, 0, 0, 0, ByteArray.empty, p + 1, by simp, by decide, by omega, Ev.step 2 (fun k => F70_eq k _ _ _) ?_⟩
    simp only [c1, beq_self_eq_true, if_true]
    exact Ev.bind h1 (Ev.bind (Ev.step 2 (fun k => F110_eq k _) (Ev.now _)) (Ev.now _))
  by_cases c2 : kd = 2
  · obtain ⟨z, s, q, hz, _, hq, h1⟩ := l14Dec_ev hb (p := p) (by omega)
    have hl := z16 hz
    refine ⟨2, false, decide (z < 0), digs z.natAbs, (s : Int), 0, 0, 0, ByteArray.empty, q, by omega, by decide, by omega, Ev.step 2 (fun k => F70_eq k _ _ _) ?_⟩
    simp only [c2, show ((2 : Int) == 1) = false from rfl, beq_self_eq_true, Bool.false_eq_true, if_false, if_true]
    exact Ev.bind h1 (Ev.bind (Ev.step 2 (fun k => F111_eq k _ _ _) (Ev.now _)) (Ev.now _))
  by_cases c3 : kd = 3
  · obtain ⟨v, q, hq, h1⟩ := day_ev hb (p := p) (by omega)
    refine ⟨3, false, false, [], 0, v, 0, 0, ByteArray.empty, q, by simp, by decide, by omega, Ev.step 2 (fun k => F70_eq k _ _ _) ?_⟩
    simp only [c3, show ((3 : Int) == 1) = false from rfl, show ((3 : Int) == 2) = false from rfl, beq_self_eq_true, Bool.false_eq_true, if_false, if_true]
    exact Ev.bind h1 (Ev.now _)
  by_cases c4 : kd = 4
  · obtain ⟨m, d, q, hq, h1⟩ := span_ev hb (p := p) (by omega)
    refine ⟨4, false, false, [], 0, 0, m, d, ByteArray.empty, q, by simp, by decide, by omega, Ev.step 2 (fun k => F70_eq k _ _ _) ?_⟩
    simp only [c4, show ((4 : Int) == 1) = false from rfl, show ((4 : Int) == 2) = false from rfl, show ((4 : Int) == 3) = false from rfl, beq_self_eq_true, Bool.false_eq_true, if_false, if_true]
    exact Ev.bind h1 (Ev.now _)
  by_cases c5 : kd = 5
  · obtain ⟨t, ht, h1⟩ := word_ev hb (p := p) (by omega)
    refine ⟨5, false, false, [], 0, 0, 0, 0, t, p + 1, by simp, ht, by omega, Ev.step 2 (fun k => F70_eq k _ _ _) ?_⟩
    simp only [c5, show ((5 : Int) == 1) = false from rfl, show ((5 : Int) == 2) = false from rfl, show ((5 : Int) == 3) = false from rfl, show ((5 : Int) == 4) = false from rfl, beq_self_eq_true, Bool.false_eq_true, if_false, if_true]
    exact Ev.bind h1 (Ev.now _)
  · refine ⟨0, false, false, [], 0, 0, 0, 0, ByteArray.empty, p, by simp, by decide, by omega, Ev.step 2 (fun k => F70_eq k _ _ _) ?_⟩
    simp only [beq_eq_false_iff_ne.2 c1, beq_eq_false_iff_ne.2 c2, beq_eq_false_iff_ne.2 c3, beq_eq_false_iff_ne.2 c4, beq_eq_false_iff_ne.2 c5, Bool.false_eq_true, if_false]
    exact Ev.now _
theorem value_ev {p : Nat} (hp : p + 800 ≤ 1000000) : ∃ (k0 : Int) (y n : Bool) (l : List Int) (s day mo da : Int) (t : ByteArray) (q : Nat), l.length ≤ 100 ∧ t.size ≤ 100 ∧ q ≤ p + 800 ∧ Ev (fun k => F100 k bs (p : Int)) (((k0, y, n, l, s, day, mo, da, t, ()), ()), ((bs, (q : Int), ()), ())) := by
  obtain ⟨v, _, h1⟩ := pick_ev hb (show p ≤ 1000000000 by omega) 6
  obtain ⟨k0, y, n, l, s, day, mo, da, t, q, hl, ht, hq, h2⟩ := valueOf_ev hb (p := p + 1) (by omega) v
  exact ⟨k0, y, n, l, s, day, mo, da, t, q, hl, ht, by omega, Ev.step 2 (fun k => F100_eq k _ _) (Ev.bind h1 (Ev.bind h2 (Ev.now _)))⟩
theorem anyValue_ev {p : Nat} (hp : p + 3000 ≤ 1000000) : ∃ (k0 : Int) (y n : Bool) (l : List Int) (s day mo da : Int) (t : ByteArray) (q : Nat), l.length ≤ 100 ∧ t.size ≤ 100 ∧ q ≤ p + 3000 ∧ Ev (fun k => F55 k bs (p : Int)) (((k0, y, n, l, s, day, mo, da, t, ()), ()), ((bs, (q : Int), ()), ())) := by
  obtain ⟨k0, y, n, l, s, day, mo, da, t, q, hl, ht, hq, h1⟩ := value_ev hb (p := p) (by omega)
  obtain ⟨v, _, h2⟩ := pick_ev hb (show q ≤ 1000000000 by omega) 30
  by_cases c0 : v = 0
  · obtain ⟨u, _, h3⟩ := one_ev hb (show q + 1 ≤ 1000000000 by omega) [-1, 6, 1, 2] (by simp)
    refine ⟨u, y, n, l, s, day, mo, da, t, q + 1 + 1, hl, ht, by omega, Ev.step 2 (fun k => F55_eq k _ _) (Ev.bind h1 (Ev.bind h2 ?_))⟩
    simp only [c0, beq_self_eq_true, if_true]
    exact Ev.bind h3 (Ev.step 1 (fun k => F55c15_eq k _ _ _ _ _ _ _ _ _ _ _ _ _ _ _ _ _ _ _ _) (Ev.now _))
  by_cases c1 : v = 1
  · obtain ⟨u, hu, h3⟩ := of_ev hb (show q + 1 ≤ 1000000000 by omega) [(⟨#[116, 104, 105, 114, 116, 101, 101, 110, 32, 98, 121, 116, 101]⟩ : ByteArray), (⟨#[97, 10]⟩ : ByteArray), (⟨#[127]⟩ : ByteArray), (⟨#[120]⟩ : ByteArray)] (by simp) (by simp)
    have hu2 : u.size ≤ 100 := by
      simp only [List.mem_cons, List.not_mem_nil, or_false] at hu
      rcases hu with rfl | rfl | rfl | rfl <;> decide
    refine ⟨k0, y, n, l, s, day, mo, da, u, q + 1 + 1, hl, hu2, by omega, Ev.step 2 (fun k => F55_eq k _ _) (Ev.bind h1 (Ev.bind h2 ?_))⟩
    simp only [c1, show ((1 : Int) == 0) = false from rfl, beq_self_eq_true, Bool.false_eq_true, if_false, if_true]
    exact Ev.bind h3 (Ev.step 1 (fun k => F55c15_eq k _ _ _ _ _ _ _ _ _ _ _ _ _ _ _ _ _ _ _ _) (Ev.now _))
  by_cases c2 : v = 2
  · obtain ⟨n', l', s', q', hl', hq', h3⟩ := anyDec_ev hb (p := q + 1) (by omega)
    refine ⟨k0, y, n', l', s', day, mo, da, t, q', hl', ht, by omega, Ev.step 2 (fun k => F55_eq k _ _) (Ev.bind h1 (Ev.bind h2 ?_))⟩
    simp only [c2, show ((2 : Int) == 0) = false from rfl, show ((2 : Int) == 1) = false from rfl, beq_self_eq_true, Bool.false_eq_true, if_false, if_true]
    exact Ev.bind h3 (Ev.step 1 (fun k => F55c15_eq k _ _ _ _ _ _ _ _ _ _ _ _ _ _ _ _ _ _ _ _) (Ev.now _))
  by_cases c3 : v = 3
  · obtain ⟨u, q', hq', h3⟩ := anyDay_ev hb (p := q + 1) (by omega)
    refine ⟨k0, y, n, l, s, u, mo, da, t, q', hl, ht, by omega, Ev.step 2 (fun k => F55_eq k _ _) (Ev.bind h1 (Ev.bind h2 ?_))⟩
    simp only [c3, show ((3 : Int) == 0) = false from rfl, show ((3 : Int) == 1) = false from rfl, show ((3 : Int) == 2) = false from rfl, beq_self_eq_true, Bool.false_eq_true, if_false, if_true]
    exact Ev.bind h3 (Ev.step 1 (fun k => F55c15_eq k _ _ _ _ _ _ _ _ _ _ _ _ _ _ _ _ _ _ _ _) (Ev.now _))
  by_cases c4 : v = 4
  · refine ⟨k0, true, n, l, s, day, mo, da, t, q + 1, hl, ht, by omega, Ev.step 2 (fun k => F55_eq k _ _) (Ev.bind h1 (Ev.bind h2 ?_))⟩
    simp only [c4, show ((4 : Int) == 0) = false from rfl, show ((4 : Int) == 1) = false from rfl, show ((4 : Int) == 2) = false from rfl, show ((4 : Int) == 3) = false from rfl, beq_self_eq_true, Bool.false_eq_true, if_false, if_true]
    exact Ev.step 1 (fun k => F55c15_eq k _ _ _ _ _ _ _ _ _ _ _ _ _ _ _ _ _ _ _ _) (Ev.now _)
  by_cases c5 : v = 5
  · obtain ⟨m', d', q', hq', h3⟩ := anySpan_ev hb (p := q + 1) (by omega)
    refine ⟨k0, y, n, l, s, day, m', d', t, q', hl, ht, by omega, Ev.step 2 (fun k => F55_eq k _ _) (Ev.bind h1 (Ev.bind h2 ?_))⟩
    simp only [c5, show ((5 : Int) == 0) = false from rfl, show ((5 : Int) == 1) = false from rfl, show ((5 : Int) == 2) = false from rfl, show ((5 : Int) == 3) = false from rfl, show ((5 : Int) == 4) = false from rfl, beq_self_eq_true, Bool.false_eq_true, if_false, if_true]
    exact Ev.bind h3 (Ev.step 1 (fun k => F55c15_eq k _ _ _ _ _ _ _ _ _ _ _ _ _ _ _ _ _ _ _ _) (Ev.now _))
  · refine ⟨k0, y, n, l, s, day, mo, da, t, q + 1, hl, ht, by omega, Ev.step 2 (fun k => F55_eq k _ _) (Ev.bind h1 (Ev.bind h2 ?_))⟩
    simp only [beq_eq_false_iff_ne.2 c0, beq_eq_false_iff_ne.2 c1, beq_eq_false_iff_ne.2 c2, beq_eq_false_iff_ne.2 c3, beq_eq_false_iff_ne.2 c4, beq_eq_false_iff_ne.2 c5, Bool.false_eq_true, if_false]
    exact Ev.step 1 (fun k => F55c15_eq k _ _ _ _ _ _ _ _ _ _ _ _ _ _ _ _ _ _ _ _) (Ev.now _)
end
end Go.Proofs.YtiojgdjpigcgaaaGreatDoor.R
end

section
/-! Rf: what the laws draw: rows. -/
set_option autoImplicit false
set_option linter.unusedSimpArgs false
set_option linter.unusedVariables false
namespace Go.Proofs.YtiojgdjpigcgaaaGreatDoor.R
open Go.Rf
theorem more5_ev (neg odd : Bool) (half : Int) : Ev (fun k => F236 k 5 neg odd half) ((decide (half ≥ 0), ()), ((), (), (), (), ())) := by
  refine Ev.step 2 (fun k => F236_eq k _ _ _ _) ?_
  simp only [show ((5 : Int) == 1) = false from rfl, show ((5 : Int) == 2) = false from rfl, show ((5 : Int) == 3) = false from rfl, show ((5 : Int) == 4) = false from rfl, beq_self_eq_true, Bool.false_eq_true, if_false, if_true]
  exact Ev.now _
theorem l2Div5_ev (neg : Bool) {V D : Nat} (hp : 0 < D) (lV : (digs V).length ≤ 900) (lD : (digs D).length ≤ 900) : ∃ q : Nat, (digs q).length ≤ 901 ∧ Ev (fun k => F223 k neg (digs V) (digs D) 5) ((digs q, ()), ((), (), (), (), ())) := by
  have hs := l1DivAbs_ev (digs_InR V) (digs_InR D) (by omega) (by omega) (VI_digs V) (VI_digs D) hp
  have lQ0 : ∀ q, q ≤ V → (digs q).length ≤ 900 := by
    intro q hq
    have h1 := VI_lt (digs_InR V)
    rw [VI_digs] at h1
    have h2 : V < 10000 ^ (digs V).length := by
      have : ((V : Nat) : Int) < ((10000 ^ (digs V).length : Nat) : Int) := by rw [Int.natCast_pow]; exact h1
      omega
    have := digs_len_le (Nat.lt_of_le_of_lt hq h2)
    omega
  have lQ1 : ∀ q, q ≤ V + 1 → (digs q).length ≤ 901 := by
    intro q hq
    have h1 := VI_lt (digs_InR V)
    rw [VI_digs] at h1
    have h2 : V < 10000 ^ (digs V).length := by
      have : ((V : Nat) : Int) < ((10000 ^ (digs V).length : Nat) : Int) := by rw [Int.natCast_pow]; exact h1
      omega
    have h3 : (10000 : Nat) ^ ((digs V).length + 1) = 10000 ^ (digs V).length * 10000 := Nat.pow_succ ..
    have h4 : 0 < 10000 ^ (digs V).length := Nat.pow_pos (by omega)
    have := digs_len_le (show q < 10000 ^ ((digs V).length + 1) by omega)
    omega
  have hdv : V / D ≤ V := Nat.div_le_self V D
  by_cases hr : V % D = 0
  · refine ⟨V / D, lQ1 _ (by omega), Ev.step 2 (fun k => F223_eq k _ _ _ _) (Ev.bind hs ?_)⟩
    simp only [len_is0, hr, decide_true, if_true]
    exact Ev.now _
  · have lQ := lQ0 _ hdv
    have lR : (digs (V % D)).length ≤ 901 := by
      have h1 := VI_lt (digs_InR D)
      rw [VI_digs] at h1
      have h2 : D < 10000 ^ (digs D).length := by
        have : ((D : Nat) : Int) < ((10000 ^ (digs D).length : Nat) : Int) := by rw [Int.natCast_pow]; exact h1
        omega
      have := digs_len_le (Nat.lt_trans (Nat.mod_lt V hp) h2)
      omega
    have l2R : (digs (V % D + V % D)).length ≤ 902 := by
      have h1 := VI_lt (digs_InR (V % D))
      rw [VI_digs] at h1
      have h2 : V % D < 10000 ^ (digs (V % D)).length := by
        have : ((V % D : Nat) : Int) < ((10000 ^ (digs (V % D)).length : Nat) : Int) := by rw [Int.natCast_pow]; exact h1
        omega
      have h3 : V % D + V % D < 10000 ^ ((digs (V % D)).length + 1) := by rw [Nat.pow_succ]; omega
      have := digs_len_le h3
      omega
    have s1 := l1AddN_ev (q := V % D) (digs_InR (V % D)) (by omega) (VI_digs _) (by omega)
    have s2 : Ev (fun k => F206 k (digs (V % D + V % D)) (digs D)) ((cmpI (V % D + V % D) D, ()), ((), (), ())) := l1CmpAbs_ev (digs_InR _) (digs_InR _) (digs_Trim _) (digs_Trim _) (VI_digs _) (VI_digs _) (by omega)
    have s3 := l1AddN_ev (q := V / D) (c := [1]) (n := 1) (InR.one (by omega)) (by simp) (VI_one 1) (by omega)
    have c1 : decide (V % D = 0) = false := decide_eq_false hr
    have fin : ∀ v : Bool, (digs (if v = true then V / D + 1 else V / D)).length ≤ 901 := fun v => lQ1 _ (by split <;> omega)
    by_cases hq : V / D = 0
    · have c2 : decide (V / D ≠ 0) = false := decide_eq_false (by omega)
      refine ⟨_, fin (decide (cmpI (V % D + V % D) D ≥ 0)), Ev.step 2 (fun k => F223_eq k _ _ _ _) (Ev.bind hs ?_)⟩
      simp only [len_is0, len_gt, c1, c2, Bool.false_eq_true, if_false]
      refine Ev.bind s1 (Ev.bind s2 (Ev.bind (more5_ev neg false (cmpI (V % D + V % D) D)) ?_))
      cases decide (cmpI (V % D + V % D) D ≥ 0) with
      | true => simp only [if_true]; exact Ev.bind s3 (Ev.now _)
      | false => simp only [Bool.false_eq_true, if_false]; exact Ev.now _
    · have c2 : decide (V / D ≠ 0) = true := decide_eq_true hq
      obtain ⟨y, hy⟩ : ∃ y, (digs (V / D))[0]? = some y := by rw [digs_pos hq]; exact ⟨_, rfl⟩
      refine ⟨_, fin (decide (cmpI (V % D + V % D) D ≥ 0)), Ev.step 2 (fun k => F223_eq k _ _ _ _) (Ev.bind hs ?_)⟩
      simp only [len_is0, len_gt, c1, c2, Bool.false_eq_true, if_false, if_true, hy, Option.bind_some]
      refine Ev.bind s1 (Ev.bind s2 (Ev.bind (more5_ev neg ((y.tmod 2) == 1) (cmpI (V % D + V % D) D)) ?_))
      cases decide (cmpI (V % D + V % D) D ≥ 0) with
      | true => simp only [if_true]; exact Ev.bind s3 (Ev.now _)
      | false => simp only [Bool.false_eq_true, if_false]; exact Ev.now _
theorem made_is (neg : Bool) (n : Nat) (s : Int) (h : (digs n).length ≤ 1000) : ∃ (b : Bool) (N : Nat) (t : Int) (c : Int), (digs N).length ≤ 1000 ∧ made neg n s = ((b, digs N, t, ()), c, ()) := by
  unfold made
  split
  · exact ⟨false, 0, 0, 3, by simp [digs_zero], by rw [digs_zero]⟩
  · exact ⟨_, n, s, 0, h, rfl⟩
theorem round5_ev {n : Bool} {N t u : Nat} (hN : N < 10000 ^ 16) (ht : t ≤ 12) (hu : u ≤ 12) : ∃ (b : Bool) (M : Nat) (s : Int) (c : Int), (digs M).length ≤ 1000 ∧ Ev (fun k => F186 k n (digs N) (t : Int) (u : Int) 5) (((b, digs M, s, ()), c, ()), (((), (), (), ()), (), (), ())) := by
  have hl := digs_len_le hN
  by_cases hge : t ≤ u
  · have cge : decide ((u : Int) ≥ (t : Int)) = true := decide_eq_true (by omega)
    have eu : t + (u - t) = u := by omega
    have a2 := l2At_ev (neg := n) (s := t) (m := u - t) (digs_InR N) hl (by omega)
    rw [eu] at a2
    have hnum : num (digs N) = N := num_digs N
    rw [hnum] at a2
    have k1 := pow_len hN (show u - t ≤ 24 by omega)
    obtain ⟨b, M, s, c, hM, e⟩ := made_is n (N * 10 ^ (u - t)) (u : Int) (by omega)
    refine ⟨b, M, s, c, hM, Ev.step 2 (fun k => F186_eq k _ _ _ _ _) ?_⟩
    simp only [cge, if_true]
    have mk := l2Make_ev (neg := n) (n := N * 10 ^ (u - t)) (s := (u : Int)) (by omega)
    rw [e] at mk
    exact Ev.bind a2 (Ev.bind mk (Ev.now _))
  · have cge : decide ((u : Int) ≥ (t : Int)) = false := decide_eq_false (by omega)
    have e1 : IntKind.i64.wrap ((t : Int) - (u : Int)) = ((t - u : Nat) : Int) := by rw [wrap64 (by omega) (by omega)]; omega
    have lt1 := ten_len (t - u)
    obtain ⟨q, q1, q3⟩ := l2Div5_ev n (V := N) (D := 10 ^ (t - u)) (Nat.pow_pos (by omega)) (by omega) (by omega)
    obtain ⟨b, M, s, c, hM, e⟩ := made_is n q (u : Int) (by omega)
    refine ⟨b, M, s, c, hM, Ev.step 2 (fun k => F186_eq k _ _ _ _ _) ?_⟩
    simp only [cge, Bool.false_eq_true, if_false, e1]
    have mk := l2Make_ev (neg := n) (n := q) (s := (u : Int)) (by omega)
    rw [e] at mk
    exact Ev.bind (l1TenAbs_ev (t - u) (by omega)) (Ev.bind q3 (Ev.bind mk (Ev.now _)))
theorem toNum_ev {n : Bool} {N t u : Nat} {kd d : Int} (hN : N < 10000 ^ 16) (ht : t ≤ 12) (hu : u ≤ 12) : ∃ (v : Vl) (c : Int), szOk v ∧ Ev (fun k => F146 k n (digs N) (t : Int) kd d (u : Int)) ((v, c, ()), (((), (), (), ()), ((), (), (), ()), ())) := by
  obtain ⟨b, M, s, c, hM, h1⟩ := round5_ev (n := n) hN ht hu
  by_cases hc : c = 0
  · subst hc
    by_cases hd : long (digs M) > d
    · refine ⟨v0, 4, ⟨by simp [v0], by decide⟩, Ev.step 2 (fun k => F146_eq k _ _ _ _ _ _) (Ev.bind h1 ?_)⟩
      simp only [bne_self_eq_false, Bool.false_eq_true, if_false]
      refine Ev.bind (l1Long_ev (digs_InR M) (by omega)) ?_
      simp only [decide_eq_true hd, if_true]
      exact Ev.now _
    · refine ⟨(2, false, b, digs M, s, 0, 0, 0, ByteArray.empty, ()), 0, ⟨by show (digs M).length ≤ 1048576; omega, by show ByteArray.empty.size ≤ 1048576; decide⟩, Ev.step 2 (fun k => F146_eq k _ _ _ _ _ _) (Ev.bind h1 ?_)⟩
      simp only [bne_self_eq_false, Bool.false_eq_true, if_false]
      refine Ev.bind (l1Long_ev (digs_InR M) (by omega)) ?_
      simp only [decide_eq_false hd, Bool.false_eq_true, if_false]
      exact Ev.bind (Ev.step 2 (fun k => F111_eq k _ _ _) (Ev.now _)) (Ev.now _)
  · have hc' : (c != (0 : Int)) = true := by rw [bne_iff_ne]; exact hc
    refine ⟨v0, 4, ⟨by simp [v0], by decide⟩, Ev.step 2 (fun k => F146_eq k _ _ _ _ _ _) (Ev.bind h1 ?_)⟩
    simp only [hc', if_true]
    exact Ev.now _
def okT (t : Ty) : Prop := t.1 = 2 → 0 ≤ t.2.2.1 ∧ t.2.2.1 ≤ 12
section
variable {bs : List Int} (hb : Rd bs)
include hb
theorem fit_ev {p : Nat} (hp : p + 800 ≤ 1000000) (t : Ty) (ht : okT t) : ∃ (v : Vl) (q : Nat), szOk v ∧ q ≤ p + 800 ∧ Ev (fun k => F99 k bs (p : Int) t.1 t.2.1 t.2.2.1) ((v, ()), ((bs, (q : Int), ()), ((), (), (), ()), ())) := by
  obtain ⟨x, _, h1⟩ := pick_ev hb (show p ≤ 1000000000 by omega) 6
  by_cases hx : x = 0
  · refine ⟨v0, p + 1, ⟨by simp [v0], by decide⟩, by omega, Ev.step 2 (fun k => F99_eq k _ _ _ _ _) (Ev.bind h1 ?_)⟩
    simp only [hx, beq_self_eq_true, if_true]
    exact Ev.now _
  have cx := beq_eq_false_iff_ne.2 hx
  by_cases hk : t.1 = 2
  · obtain ⟨z, s, q, hz, hs, hq, h2⟩ := l14Dec_ev hb (p := p + 1) (by omega)
    obtain ⟨u, hu⟩ : ∃ u : Nat, t.2.2.1 = (u : Int) := ⟨t.2.2.1.toNat, by have := ht hk; omega⟩
    have hu12 : u ≤ 12 := by have := ht hk; omega
    obtain ⟨v, c, hv, h3⟩ := toNum_ev (n := decide (z < 0)) (kd := 2) (d := t.2.1) hz hs hu12
    have h2' : Ev (fun k => F70 k bs ((p + 1 : Nat) : Int) 2) (((2, false, decide (z < 0), digs z.natAbs, (s : Int), 0, 0, 0, ByteArray.empty, ()), ()), ((bs, (q : Int), ()), (), ())) := by
      refine Ev.step 2 (fun k => F70_eq k _ _ _) ?_
      simp only [show ((2 : Int) == 1) = false from rfl, beq_self_eq_true, Bool.false_eq_true, if_false, if_true]
      exact Ev.bind h2 (Ev.bind (Ev.step 2 (fun k => F111_eq k _ _ _) (Ev.now _)) (Ev.now _))
    rw [hk, hu]
    by_cases hc : c > 0
    · refine ⟨v0, q, ⟨by simp [v0], by decide⟩, by omega, Ev.step 2 (fun k => F99_eq k _ _ _ _ _) (Ev.bind h1 ?_)⟩
      simp only [cx, Bool.false_eq_true, if_false]
      refine Ev.bind h2' ?_
      simp only [beq_self_eq_true, if_true]
      refine Ev.bind h3 ?_
      simp only [decide_eq_true hc, if_true]
      exact Ev.now _
    · refine ⟨v, q, hv, by omega, Ev.step 2 (fun k => F99_eq k _ _ _ _ _) (Ev.bind h1 ?_)⟩
      simp only [cx, Bool.false_eq_true, if_false]
      refine Ev.bind h2' ?_
      simp only [beq_self_eq_true, if_true]
      refine Ev.bind h3 ?_
      simp only [decide_eq_false hc, Bool.false_eq_true, if_false]
      exact Ev.now _
  · obtain ⟨k0, y, n, l, s, day, mo, da, tx, q, hl, htx, hq, h2⟩ := valueOf_ev hb (p := p + 1) (by omega) t.1
    refine ⟨(k0, y, n, l, s, day, mo, da, tx, ()), q, ⟨by show l.length ≤ 1048576; omega, by show tx.size ≤ 1048576; omega⟩, by omega, Ev.step 2 (fun k => F99_eq k _ _ _ _ _) (Ev.bind h1 ?_)⟩
    simp only [cx, Bool.false_eq_true, if_false]
    refine Ev.bind h2 ?_
    simp only [beq_eq_false_iff_ne.2 hk, Bool.false_eq_true, if_false]
    exact Ev.now _
theorem type_ev {p : Nat} (hp : p + 10 ≤ 1000000) : ∃ (t : Ty) (q : Nat), okT t ∧ q ≤ p + 10 ∧ Ev (fun k => F98 k bs (p : Int)) ((t, ()), ((bs, (q : Int), ()), ())) := by
  obtain ⟨x, _, h1⟩ := one_ev hb (show p ≤ 1000000000 by omega) [1, 2, 2, 2, 3, 4, 5] (by simp)
  by_cases hx : x = 2
  · subst hx
    obtain ⟨y, hy, h2⟩ := one_ev hb (show p + 1 ≤ 1000000000 by omega) [1, 2, 3, 6, 10, 30, 12] (by simp)
    obtain ⟨z, hz, h3⟩ := one_ev hb (show p + 1 + 1 ≤ 1000000000 by omega) [0, 0, 1, 2, 6, 12] (by simp)
    simp only [List.mem_cons, List.not_mem_nil, or_false] at hy hz
    by_cases hc : z > y
    · refine ⟨(2, y, y, ()), p + 1 + 1 + 1, fun _ => ⟨by show 0 ≤ y; omega, by show y ≤ 12; omega⟩, by omega, Ev.step 2 (fun k => F98_eq k _ _) (Ev.bind h1 ?_)⟩
      simp only [beq_self_eq_true, if_true]
      refine Ev.bind h2 (Ev.bind h3 ?_)
      simp only [decide_eq_true hc, if_true]
      exact Ev.step 1 (fun k => F98c7_eq k _ _ _ _ _ _ _ _) (Ev.now _)
    · refine ⟨(2, y, z, ()), p + 1 + 1 + 1, fun _ => ⟨by show 0 ≤ z; omega, by show z ≤ 12; omega⟩, by omega, Ev.step 2 (fun k => F98_eq k _ _) (Ev.bind h1 ?_)⟩
      simp only [beq_self_eq_true, if_true]
      refine Ev.bind h2 (Ev.bind h3 ?_)
      simp only [decide_eq_false hc, Bool.false_eq_true, if_false]
      exact Ev.step 1 (fun k => F98c7_eq k _ _ _ _ _ _ _ _) (Ev.now _)
  · refine ⟨(x, 0, 0, ()), p + 1, fun h => absurd h hx, by omega, Ev.step 2 (fun k => F98_eq k _ _) (Ev.bind h1 ?_)⟩
    simp only [beq_eq_false_iff_ne.2 hx, Bool.false_eq_true, if_false]
    exact Ev.now _
theorem typesI : ∀ (m : Nat) (ts : List Ty) (p : Nat), m ≤ 4 → ts.length + m ≤ 10 → p + 10 * m ≤ 1000000 → (∀ t ∈ ts, okT t) → ∃ (us : List Ty) (q : Nat), us.length = ts.length + m ∧ (∀ t ∈ us, okT t) ∧ q ≤ p + 10 * m ∧ Ev (fun k => F50c3 k bs (p : Int) ts (m : Int)) ((us, ()), ((bs, (q : Int), ()), ()))
  | 0, ts, p, _, _, _, h => by
    refine ⟨ts, p, rfl, h, by omega, Ev.step 1 (fun k => F50c3_eq k _ _ _ _) ?_⟩
    simp only [show decide (((0 : Nat) : Int) > 0) = false from rfl, Bool.false_eq_true, if_false]
    exact Ev.now _
  | m + 1, ts, p, hm, hl, hp, h => by
    obtain ⟨t, q, ht, hq, h1⟩ := type_ev hb (p := p) (by omega)
    obtain ⟨us, q', e, hus, hq', h2⟩ := typesI m (ts ++ [t]) q (by omega) (by rw [List.length_append]; simp; omega) (by omega) (fun x hx => by
      rcases List.mem_append.1 hx with hx | hx
      · exact h x hx
      · rw [List.mem_singleton] at hx; rw [hx]; exact ht)
    refine ⟨us, q', by rw [e, List.length_append]; simp; omega, hus, by omega, Ev.step 1 (fun k => F50c3_eq k _ _ _ _) ?_⟩
    simp only [decide_eq_true (show ((m + 1 : Nat) : Int) > 0 by omega), if_true]
    refine Ev.bind h1 ?_
    have c : decide (ts.length + [t].length ≤ 5864062014805) = true := decide_eq_true (by simp; omega)
    have c' : decide (ts.length + [(t.1, t.2.1, t.2.2.1, ())].length ≤ 5864062014805) = true := c
    have ew : IntKind.i64.wrap (((m + 1 : Nat) : Int) - 1) = (m : Int) := by rw [wrap64 (by omega) (by omega)]; omega
    simp only [c', if_true, ew]
    exact h2
theorem types_ev {p : Nat} (hp : p + 50 ≤ 1000000) : ∃ (ts : List Ty) (q : Nat), 1 ≤ ts.length ∧ ts.length ≤ 4 ∧ (∀ t ∈ ts, okT t) ∧ q ≤ p + 50 ∧ Ev (fun k => F50 k bs (p : Int)) ((ts, ()), ((bs, (q : Int), ()), ())) := by
  obtain ⟨x, ⟨x0, x1, _⟩, h1⟩ := pick_ev hb (show p ≤ 1000000000 by omega) 4
  have x1 := x1 (by omega)
  obtain ⟨m, rfl⟩ : ∃ m : Nat, x = (m : Int) := ⟨x.toNat, by omega⟩
  obtain ⟨us, q, e, hus, hq, h2⟩ := typesI hb (m + 1) [] (p + 1) (by omega) (by simp; omega) (by omega) (fun t h => by cases h)
  refine ⟨us, q, by rw [e]; simp, by rw [e]; simp; omega, hus, by omega, Ev.step 2 (fun k => F50_eq k _ _) (Ev.bind h1 ?_)⟩
  have ew : IntKind.i64.wrap (1 + (m : Int)) = ((m + 1 : Nat) : Int) := by rw [wrap64 (by omega) (by omega)]; omega
  simp only [ew]
  exact h2
theorem rowI {ts : List Ty} (ht : ∀ t ∈ ts, okT t) (hl : ts.length ≤ 4) : ∀ (m i : Nat) (vs : List Vl) (p : Nat), i + m = ts.length → vs.length = i → p + 800 * m ≤ 900000 → (∀ v ∈ vs, szOk v) → ∃ (us : List Vl) (q : Nat), us.length = ts.length ∧ (∀ v ∈ us, szOk v) ∧ q ≤ p + 800 * m ∧ Ev (fun k => F51c3 k bs (p : Int) ts vs (i : Int)) ((us, ()), ((bs, (q : Int), ()), (), ()))
  | 0, i, vs, p, hi, hv, _, h => by
    refine ⟨vs, p, by omega, h, by omega, Ev.step 1 (fun k => F51c3_eq k _ _ _ _ _) ?_⟩
    simp only [lt_false (show ts.length ≤ i by omega), Bool.false_eq_true, if_false]
    exact Ev.now _
  | m + 1, i, vs, p, hi, hv, hp, h => by
    have hlt : i < ts.length := by omega
    have h8 : 800 * (m + 1) = 800 * m + 800 := Nat.mul_succ ..
    rw [h8] at hp ⊢
    have hp1 : p + 800 ≤ 1000000 := Nat.le_trans (Nat.le_trans (Nat.add_le_add_left (Nat.le_add_left 800 (800 * m)) p) hp) (by decide)
    obtain ⟨v, q, hvz, hq, h1⟩ := fit_ev hb (p := p) hp1 (ts.getD i t0) (ht _ (List.mem_of_getElem? (atD hlt)))
    obtain ⟨us, q', e, hus, hq', h2⟩ := rowI ht hl m (i + 1) (vs ++ [v]) q (by omega) (by rw [List.length_append]; simp; omega) (by omega) (fun x hx => by
      rcases List.mem_append.1 hx with hx | hx
      · exact h x hx
      · rw [List.mem_singleton] at hx; rw [hx]; exact hvz)
    refine ⟨us, q', e, hus, by omega, Ev.step 1 (fun k => F51c3_eq k _ _ _ _ _) ?_⟩
    simp only [lt_true hlt, ge0, if_true, Int.toNat_natCast, atD (d := t0) hlt, Option.bind_some]
    refine Ev.bind h1 ?_
    have c : decide (vs.length + [v].length ≤ 1466015503701) = true := decide_eq_true (by simp; omega)
    have c' : decide (vs.length + [(v.1, (v.2.1, (v.2.2.1, (v.2.2.2.1, (v.2.2.2.2.1, (v.2.2.2.2.2.1, (v.2.2.2.2.2.2.1, (v.2.2.2.2.2.2.2.1, (v.2.2.2.2.2.2.2.2.1, ())))))))))].length ≤ 1466015503701) = true := c
    simp only [c', if_true, wrap_succ (show i < 9223372036854775807 by omega)]
    exact h2
theorem row_ev {ts : List Ty} (ht : ∀ t ∈ ts, okT t) (hl : ts.length ≤ 4) {p : Nat} (hp : p + 3200 ≤ 900000) : ∃ (vs : List Vl) (q : Nat), vs.length = ts.length ∧ (∀ v ∈ vs, szOk v) ∧ q ≤ p + 3200 ∧ Ev (fun k => F51 k bs (p : Int) ts) ((vs, ()), ((bs, (q : Int), ()), (), ())) := by
  obtain ⟨us, q, e, hus, hq, h⟩ := rowI hb ht hl ts.length 0 [] p (by omega) rfl (by omega) (fun v h => by cases h)
  exact ⟨us, q, e, hus, by omega, Ev.step 2 (fun k => F51_eq k _ _ _) h⟩
theorem downsI {n : Nat} (hn : n ≤ 10) : ∀ (m : Nat) (ds : List Bool) (p : Nat), ds.length + m = n → p + m ≤ 1000000 → ∃ (es : List Bool), es.length = n ∧ Ev (fun k => F53c2 k bs (p : Int) (n : Int) ds) ((es, ()), ((bs, ((p + m : Nat) : Int), ()), (), ()))
  | 0, ds, p, h, _ => by
    refine ⟨ds, by omega, Ev.step 1 (fun k => F53c2_eq k _ _ _ _) ?_⟩
    simp only [lt_false (show n ≤ ds.length by omega), Bool.false_eq_true, if_false]
    exact Ev.now _
  | m + 1, ds, p, h, hp => by
    obtain ⟨x, _, h1⟩ := pick_ev hb (show p ≤ 1000000000 by omega) 2
    obtain ⟨es, e, h2⟩ := downsI hn m (ds ++ [x == 0]) (p + 1) (by rw [List.length_append]; simp; omega) (by omega)
    refine ⟨es, e, Ev.step 1 (fun k => F53c2_eq k _ _ _ _) ?_⟩
    simp only [lt_true (show ds.length < n by omega), if_true]
    refine Ev.bind h1 ?_
    have c : decide (ds.length + [(x == 0)].length ≤ 140737488355328) = true := decide_eq_true (by simp; omega)
    simp only [c, if_true]
    rw [show p + (m + 1) = p + 1 + m by omega]
    exact h2
theorem downs_ev {n : Nat} (hn : n ≤ 10) {p : Nat} (hp : p + 10 ≤ 1000000) : ∃ (es : List Bool), es.length = n ∧ Ev (fun k => F53 k bs (p : Int) (n : Int)) ((es, ()), ((bs, ((p + n : Nat) : Int), ()), (), ())) := by
  obtain ⟨es, e, h⟩ := downsI hb hn n [] p (by simp) (by omega)
  exact ⟨es, e, Ev.step 2 (fun k => F53_eq k _ _ _) h⟩
omit hb in
theorem set_sz {vs : List Vl} (h : ∀ v ∈ vs, szOk v) {i : Nat} {u : Vl} (hu : szOk u) : ∀ v ∈ vs.set i u, szOk v := fun v hv => by
  rcases List.mem_or_eq_of_mem_set hv with hv | rfl
  · exact h v hv
  · exact hu
theorem colsI {ts : List Ty} {a b : List Vl} (hts : 1 ≤ ts.length ∧ ts.length ≤ 4) (ha : a.length = ts.length) (hb' : b.length = ts.length) (sa : ∀ v ∈ a, szOk v) (sb : ∀ v ∈ b, szOk v) : ∀ (m : Nat) (cs : List Int) (p : Nat), m ≤ 4 → cs.length + m ≤ 4 → p + 4000 + m ≤ 900000 →
    ∃ (a' b' : List Vl) (cs' : List Int) (ds' : List Bool), a'.length ≤ 4 ∧ b'.length ≤ 4 ∧ cs'.length ≤ 10 ∧ ds'.length ≤ 20 ∧ (∀ v ∈ a', szOk v) ∧ (∀ v ∈ b', szOk v) ∧ Ev (fun k => F19c9 k bs (p : Int) ts a b cs (m : Int)) ((a', b', cs', ds', ()), ((), ()))
  | 0, cs, p, _, hc, hp => by
    obtain ⟨ds, ed, h1⟩ := downs_ev hb (n := cs.length) (by omega) (p := p) (by omega)
    obtain ⟨x, _, h2⟩ := pick_ev hb (show p + cs.length ≤ 1000000000 by omega) 16
    have st : ∀ {r}, Ev (fun k => if (x == (0 : Int)) = true then (F54 k bs ((p + cs.length + 1 : Nat) : Int) [(-1 : Int), (ts.length : Int)]).bind fun r12 => if (decide (cs.length + [r12.1.1].length ≤ 17592186044416)) = true then if (decide (ds.length + [true].length ≤ 140737488355328)) = true then some ((a, b, (cs ++ [r12.1.1]), (ds ++ [true]), ()), ((), ())) else none else none else if (x == (1 : Int)) = true then if (decide (0 ≤ (1 : Int)) && decide ((1 : Int) ≤ (b.length : Int))) = true then some ((a, (slices b 1 b.length), cs, ds, ()), ((), ())) else none else if (x == (2 : Int)) = true then (F55 k bs ((p + cs.length + 1 : Nat) : Int)).bind fun r13 => if (decide (0 ≤ (0 : Int)) && decide ((0 : Int) < (a.length : Int))) = true then (a[0]?).bind fun y14 => F19c20 k (a.set 0 (r13.1.1.1, (r13.1.1.2.1, (r13.1.1.2.2.1, (r13.1.1.2.2.2.1, (r13.1.1.2.2.2.2.1, (r13.1.1.2.2.2.2.2.1, (r13.1.1.2.2.2.2.2.2.1, (r13.1.1.2.2.2.2.2.2.2.1, (r13.1.1.2.2.2.2.2.2.2.2.1, ())))))))))) b cs ds else none else F19c20 k a b cs ds) r →
        Ev (fun k => F19c9 k bs (p : Int) ts a b cs ((0 : Nat) : Int)) r := by
      intro r hr
      refine Ev.step 1 (fun k => F19c9_eq k _ _ _ _ _ _ _) ?_
      simp only [show decide (((0 : Nat) : Int) > 0) = false from rfl, Bool.false_eq_true, if_false]
      exact Ev.bind h1 (Ev.bind h2 hr)
    by_cases x0 : x = 0
    · obtain ⟨y, _, h3⟩ := one_ev hb (show p + cs.length + 1 ≤ 1000000000 by omega) [-1, (ts.length : Int)] (by simp)
      refine ⟨a, b, cs ++ [y], ds ++ [true], by omega, by omega, by rw [List.length_append]; simp; omega, by rw [List.length_append]; simp; omega, sa, sb, st ?_⟩
      simp only [x0, beq_self_eq_true, if_true]
      refine Ev.bind h3 ?_
      have c1 : decide (cs.length + [y].length ≤ 17592186044416) = true := decide_eq_true (by simp; omega)
      have c2 : decide (ds.length + [true].length ≤ 140737488355328) = true := decide_eq_true (by simp; omega)
      simp only [c1, c2, if_true]
      exact Ev.now _
    by_cases x1 : x = 1
    · have hl : (slices b 1 b.length).length ≤ 4 := by unfold slices; rw [List.length_drop, List.length_take]; omega
      refine ⟨a, slices b 1 b.length, cs, ds, by omega, hl, by omega, by omega, sa, fun v hv => sb v (List.mem_of_mem_take (List.mem_of_mem_drop hv)), st ?_⟩
      simp only [x1, show ((1 : Int) == 0) = false from rfl, beq_self_eq_true, Bool.false_eq_true, if_false, if_true, decide_eq_true (show (0 : Int) ≤ 1 by omega), decide_eq_true (show (1 : Int) ≤ (b.length : Int) by omega), Bool.and_self]
      exact Ev.now _
    by_cases x2 : x = 2
    · obtain ⟨k0, y, n, l, s, day, mo, da, tx, q, hl, htx, hq, h3⟩ := anyValue_ev hb (p := p + cs.length + 1) (by omega)
      refine ⟨a.set 0 (k0, y, n, l, s, day, mo, da, tx, ()), b, cs, ds, by rw [List.length_set]; omega, by omega, by omega, by omega, set_sz sa ⟨by show l.length ≤ 1048576; omega, by show tx.size ≤ 1048576; omega⟩, sb, st ?_⟩
      simp only [x2, show ((2 : Int) == 0) = false from rfl, show ((2 : Int) == 1) = false from rfl, beq_self_eq_true, Bool.false_eq_true, if_false, if_true]
      refine Ev.bind h3 ?_
      simp only [decide_eq_true (show (0 : Int) ≤ 0 by omega), decide_eq_true (show (0 : Int) < (a.length : Int) by omega), Bool.and_self, if_true, atD (d := v0) (show 0 < a.length by omega), Option.bind_some]
      exact Ev.step 1 (fun k => F19c20_eq k _ _ _ _) (Ev.now _)
    · refine ⟨a, b, cs, ds, by omega, by omega, by omega, by omega, sa, sb, st ?_⟩
      simp only [beq_eq_false_iff_ne.2 x0, beq_eq_false_iff_ne.2 x1, beq_eq_false_iff_ne.2 x2, Bool.false_eq_true, if_false]
      exact Ev.step 1 (fun k => F19c20_eq k _ _ _ _) (Ev.now _)
  | m + 1, cs, p, hm, hc, hp => by
    obtain ⟨x, _, h1⟩ := pick_ev hb (show p ≤ 1000000000 by omega) (ts.length : Int)
    obtain ⟨a', b', cs', ds', l1, l2, l3, l4, s1, s2, h2⟩ := colsI hts ha hb' sa sb m (cs ++ [x]) (p + 1) (by omega) (by rw [List.length_append]; simp; omega) (by omega)
    refine ⟨a', b', cs', ds', l1, l2, l3, l4, s1, s2, Ev.step 1 (fun k => F19c9_eq k _ _ _ _ _ _ _) ?_⟩
    simp only [decide_eq_true (show ((m + 1 : Nat) : Int) > 0 by omega), if_true]
    refine Ev.bind h1 ?_
    have c : decide (cs.length + [x].length ≤ 17592186044416) = true := decide_eq_true (by simp; omega)
    have ew : IntKind.i64.wrap (((m + 1 : Nat) : Int) - 1) = (m : Int) := by rw [wrap64 (by omega) (by omega)]; omega
    simp only [c, if_true, ew]
    exact h2
end
theorem drawRows_ev (code : List Int) (w : ∀ y ∈ code, 0 ≤ y ∧ y ≤ 255) : ∃ (a b : List Vl) (cs : List Int) (ds : List Bool), a.length ≤ 4 ∧ b.length ≤ 4 ∧ cs.length ≤ 10 ∧ ds.length ≤ 20 ∧ (∀ v ∈ a, szOk v) ∧ (∀ v ∈ b, szOk v) ∧ Ev (fun k => F19 k code) ((a, b, cs, ds, ()), ((), ())) := by
  obtain ⟨bs, hb, h1⟩ := open_ev code w
  obtain ⟨ts, q1, t1, t4, ht, hq1, h2⟩ := types_ev hb (p := 0) (by omega)
  obtain ⟨a, q2, la, sa, hq2, h3⟩ := row_ev hb ht t4 (p := q1) (by omega)
  obtain ⟨b, q3, lb, sb, hq3, h4⟩ := row_ev hb ht t4 (p := q2) (by omega)
  obtain ⟨x, _, h5⟩ := pick_ev hb (show q3 ≤ 1000000000 by omega) 3
  have tail : ∀ b' : List Vl, b'.length = ts.length → (∀ v ∈ b', szOk v) → ∃ (a1 b1 : List Vl) (cs : List Int) (ds : List Bool), a1.length ≤ 4 ∧ b1.length ≤ 4 ∧ cs.length ≤ 10 ∧ ds.length ≤ 20 ∧ (∀ v ∈ a1, szOk v) ∧ (∀ v ∈ b1, szOk v) ∧ Ev (fun k => F19c7 k bs ((q3 + 1 : Nat) : Int) ts a b') ((a1, b1, cs, ds, ()), ((), ())) := by
    intro b' lb' sb'
    obtain ⟨y, ⟨y0, y1, _⟩, h6⟩ := pick_ev hb (show q3 + 1 ≤ 1000000000 by omega) 4
    have y1 := y1 (by omega)
    obtain ⟨m, rfl⟩ : ∃ m : Nat, y = (m : Int) := ⟨y.toNat, by omega⟩
    obtain ⟨a1, b1, cs, ds, l1, l2, l3, l4, s1, s2, h7⟩ := colsI hb ⟨t1, t4⟩ la lb' sa sb' m [] (q3 + 1 + 1) (by omega) (by simp; omega) (by omega)
    exact ⟨a1, b1, cs, ds, l1, l2, l3, l4, s1, s2, Ev.step 1 (fun k => F19c7_eq k _ _ _ _ _) (Ev.bind h6 h7)⟩
  by_cases hx : x = 0
  · obtain ⟨a1, b1, cs, ds, l1, l2, l3, l4, s1, s2, h6⟩ := tail (b.set 0 (a.getD 0 v0)) (by rw [List.length_set]; exact lb) (set_sz sb (szD sa (by omega)))
    refine ⟨a1, b1, cs, ds, l1, l2, l3, l4, s1, s2, Ev.step 2 (fun k => F19_eq k _) (Ev.bind h1 (Ev.bind h2 (Ev.bind h3 (Ev.bind h4 (Ev.bind h5 ?_)))))⟩
    simp only [hx, beq_self_eq_true, if_true, decide_eq_true (show (0 : Int) ≤ 0 by omega), decide_eq_true (show (0 : Int) < (a.length : Int) by omega), decide_eq_true (show (0 : Int) < (b.length : Int) by omega), Bool.and_self, atD (d := v0) (show 0 < a.length by omega), atD (d := v0) (show 0 < b.length by omega), Option.bind_some]
    exact h6
  · obtain ⟨a1, b1, cs, ds, l1, l2, l3, l4, s1, s2, h6⟩ := tail b lb sb
    refine ⟨a1, b1, cs, ds, l1, l2, l3, l4, s1, s2, Ev.step 2 (fun k => F19_eq k _) (Ev.bind h1 (Ev.bind h2 (Ev.bind h3 (Ev.bind h4 (Ev.bind h5 ?_)))))⟩
    simp only [beq_eq_false_iff_ne.2 hx, Bool.false_eq_true, if_false]
    exact h6
end Go.Proofs.YtiojgdjpigcgaaaGreatDoor.R
end

section
/-! Rf: decimals in order, as whole numbers with a scale: what the functions answer. -/
set_option autoImplicit false
set_option linter.unusedSimpArgs false
set_option linter.unusedVariables false
namespace Go.Proofs.YtiojgdjpigcgaaaGreatDoor.R
open Go.Rf
/-- are two decimals written alike? -/
def alike (n1 : Bool) (l1 : List Int) (s1 : Int) (n2 : Bool) (l2 : List Int) (s2 : Int) : Bool := (s1 == s2) && ((n1 == n2) && decide (l1 = l2))
theorem alike_self (n : Bool) (l : List Int) (s : Int) : alike n l s n l s = true := by simp [alike]
theorem digs_inj {a b : Nat} (h : digs a = digs b) : a = b := by
  have h1 := VI_digs a
  have h2 := VI_digs b
  rw [h] at h1
  omega
theorem alike_D {z1 z2 : Int} {s1 s2 : Nat} : alike (decide (z1 < 0)) (digs z1.natAbs) (s1 : Int) (decide (z2 < 0)) (digs z2.natAbs) (s2 : Int) = decide (z1 = z2 ∧ s1 = s2) := by
  unfold alike
  by_cases h : z1 = z2 ∧ s1 = s2
  · obtain ⟨rfl, rfl⟩ := h
    simp
  · rw [decide_eq_false h]
    by_cases hs : s1 = s2
    · have hz : z1 ≠ z2 := fun e => h ⟨e, hs⟩
      have : ¬ (decide (z1 < 0) = decide (z2 < 0) ∧ digs z1.natAbs = digs z2.natAbs) := by
        rintro ⟨h1, h2⟩
        have h3 := digs_inj h2
        have h4 : (z1 < 0) ↔ (z2 < 0) := by simpa using h1
        omega
      by_cases hd : decide (z1 < 0) = decide (z2 < 0)
      · simp only [hd, beq_self_eq_true, Bool.true_and, decide_eq_false (fun e => this ⟨hd, e⟩), Bool.and_false]
      · rw [beq_eq_false_iff_ne.2 hd, Bool.false_and, Bool.and_false]
    · have : ((s1 : Int) == (s2 : Int)) = false := by rw [beq_eq_false_iff_ne]; omega
      rw [this, Bool.false_and]
section
variable (n1 : Bool) (l1 : List Int) (s1 : Int) (n2 : Bool) (l2 : List Int) (s2 : Int)
end
section
variable {z1 z2 : Int} {s1 s2 : Nat} (h1 : z1.natAbs < 10 ^ 30) (h2 : z2.natAbs < 10 ^ 30) (t1 : s1 ≤ 12) (t2 : s2 ≤ 12)
include h1 h2 t1 t2
end
theorem okD {z : Int} {s : Nat} (h : z.natAbs < 10 ^ 30) (t : s ≤ 12) : Ev (fun k => F71 k (decide (z < 0)) (digs z.natAbs) (s : Int)) ((true, ()), (((), (), (), ()), ())) := by
  have o1 : (digs z.natAbs).length ≤ 1048576 := by have := len16 h; omega
  have := DecOk_ev (decide (z < 0)) (digs z.natAbs) (s : Int) o1
  rwa [decOk_D h t] at this
theorem mk_fine {z : Int} {s : Nat} (h : z.natAbs < 10 ^ 30) : mk z s = (D z s, 0, ()) := if_pos h
theorem mk_over {z : Int} {s : Nat} (h : ¬ z.natAbs < 10 ^ 30) : mk z s = ((false, [], 0, ()), 3, ()) := if_neg h
theorem u8_of {y : Int} (h : wfT (.int .u8) y) : 0 ≤ y ∧ y ≤ 255 := by
  have h : (Lit.int .u8 y).wf = true := h
  simp [Lit.wf, IntKind.min, IntKind.max, IntKind.bits, IntKind.signed] at h
  omega
theorem cmpZ_eq (x : Int) : cmpZ x x = 0 := by unfold cmpZ; rw [if_neg (by omega), if_pos rfl]
theorem cmpZ_zero {x y : Int} : cmpZ x y = 0 ↔ x = y := by
  unfold cmpZ
  constructor
  · intro h
    split at h
    · omega
    · split at h
      · assumption
      · omega
  · rintro rfl
    rw [if_neg (by omega), if_pos rfl]
theorem cmpZ_swap (x y : Int) : cmpZ y x = -cmpZ x y := by
  unfold cmpZ
  (repeat' split) <;> omega
theorem cmpZ_range (x y : Int) : cmpZ x y = -1 ∨ cmpZ x y = 0 ∨ cmpZ x y = 1 := by
  unfold cmpZ
  (repeat' split) <;> simp
end Go.Proofs.YtiojgdjpigcgaaaGreatDoor.R
end

section
/-! Rf: the law FnKeyRows, with no machine in sight. -/
set_option autoImplicit false
set_option linter.unusedSimpArgs false
set_option linter.unusedVariables false
namespace Go.Proofs.YtiojgdjpigcgaaaGreatDoor.R
open Go.Rf
theorem jtSign_ev (a b : ByteArray) : Ev (fun k => F12 k a b) ((tc a b, ()), ((), (), ())) := by
  obtain ⟨h1, h2, h3⟩ := less_cmp a.data.toList b.data.toList
  refine Ev.step 2 (fun k => F12_eq k _ _) ?_
  rw [Lib.toList_data, Lib.toList_data]
  unfold tc
  cases hl : Op.bytesLess a.data.toList b.data.toList with
  | true =>
    rw [h1.1 hl]
    simp only [if_true]
    exact Ev.now _
  | false =>
    have n1 : Lib.compareBytes a.data.toList b.data.toList ≠ -1 := fun h => by rw [h1.2 h] at hl; cases hl
    by_cases he : a.data.toList = b.data.toList
    · rw [h2.2 he]
      simp only [he, beq_self_eq_true, Bool.or_true, Bool.not_true, Bool.false_eq_true, if_false]
      exact Ev.now _
    · have n0 : Lib.compareBytes a.data.toList b.data.toList ≠ 0 := fun h => he (h2.1 h)
      have e1 : Lib.compareBytes a.data.toList b.data.toList = 1 := by rcases h3 with h | h | h; exact absurd h n1; exact absurd h n0; exact h
      rw [e1]
      simp only [beq_eq_false_iff_ne.2 he, Bool.or_false, Bool.not_false, Bool.false_eq_true, if_false, if_true]
      exact Ev.now _
/-- the key of a value -/
def KX (v : Vl) (d : Bool) (K : List UInt8) : Prop := ∃ B : List UInt8, BodyX v.1 v.2.1 v.2.2.1 v.2.2.2.1 v.2.2.2.2.1 v.2.2.2.2.2.1 v.2.2.2.2.2.2.1 v.2.2.2.2.2.2.2.1 v.2.2.2.2.2.2.2.2.1 B ∧ K = if d = true then flip (u8 (IntKind.i64.wrap (v.1 + 1)) :: B) else u8 (IntKind.i64.wrap (v.1 + 1)) :: B
theorem kx_cmp {v w : Vl} {d : Bool} {K L : List UInt8} (hv : vE v = true) (hw : vE w = true) (h1 : KX v d K) (h2 : KX w d L) : cb K L = if d = true then -oE v w else oE v w := by
  obtain ⟨B1, S1, rfl⟩ := h1
  obtain ⟨B2, S2, rfl⟩ := h2
  have o1 : vOk v.1 v.2.1 v.2.2.1 v.2.2.2.1 v.2.2.2.2.1 v.2.2.2.2.2.1 v.2.2.2.2.2.2.1 v.2.2.2.2.2.2.2.1 v.2.2.2.2.2.2.2.2.1 = true := hv
  have o2 : vOk w.1 w.2.1 w.2.2.1 w.2.2.2.1 w.2.2.2.2.1 w.2.2.2.2.2.1 w.2.2.2.2.2.2.1 w.2.2.2.2.2.2.2.1 w.2.2.2.2.2.2.2.2.1 = true := hw
  have hc : cb _ _ = oE v w := key_cmp o1 o2 S1 S2
  have hf := cb_flip (key_free (vOk_kind o1) (vOk_kind o2) S1.shape S2.shape) (key_free (vOk_kind o2) (vOk_kind o1) S2.shape S1.shape)
  rw [hc] at hf
  cases d with
  | true => simp only [if_true]; exact hf
  | false => simp only [Bool.false_eq_true, if_false]; exact hc
theorem kx_free {v w : Vl} {d : Bool} {K L : List UInt8} (hv : vE v = true) (hw : vE w = true) (h1 : KX v d K) (h2 : KX w d L) (h : K <+: L) : K = L := by
  obtain ⟨B1, S1, rfl⟩ := h1
  obtain ⟨B2, S2, rfl⟩ := h2
  have o1 : vOk v.1 v.2.1 v.2.2.1 v.2.2.2.1 v.2.2.2.2.1 v.2.2.2.2.2.1 v.2.2.2.2.2.2.1 v.2.2.2.2.2.2.2.1 v.2.2.2.2.2.2.2.2.1 = true := hv
  have o2 : vOk w.1 w.2.1 w.2.2.1 w.2.2.2.1 w.2.2.2.2.1 w.2.2.2.2.2.1 w.2.2.2.2.2.2.1 w.2.2.2.2.2.2.2.1 w.2.2.2.2.2.2.2.2.1 = true := hw
  have hk : ∀ {X Y : List UInt8}, X = u8 (IntKind.i64.wrap (v.1 + 1)) :: B1 → Y = u8 (IntKind.i64.wrap (w.1 + 1)) :: B2 → X <+: Y → X = Y := by
    rintro X Y rfl rfl hp
    exact key_free (vOk_kind o1) (vOk_kind o2) S1.shape S2.shape hp
  cases d with
  | true =>
    simp only [if_true] at h ⊢
    rw [hk rfl rfl (flip_pre h)]
  | false =>
    simp only [Bool.false_eq_true, if_false] at h ⊢
    exact hk rfl rfl h
theorem cb_free : ∀ {a b : List UInt8} (x y : List UInt8), (a <+: b → a = b) → (b <+: a → b = a) → cb (a ++ x) (b ++ y) = if cb a b = 0 then cb x y else cb a b
  | [], [], x, y, _, _ => by simp [cb_self]
  | [], b :: l, x, y, h, _ => by cases h (List.nil_prefix)
  | a :: l, [], x, y, _, h => by cases h (List.nil_prefix)
  | a :: l, b :: m, x, y, h1, h2 => by
    rw [List.cons_append, List.cons_append, cb_cons, cb_cons]
    by_cases hl : a.toNat < b.toNat
    · simp only [if_pos hl]; rfl
    · by_cases hg : b.toNat < a.toNat
      · simp only [if_neg hl, if_pos hg]; rfl
      · have e : a = b := UInt8.toNat_inj.1 (by omega)
        subst e
        simp only [if_neg hl]
        exact cb_free x y (fun h => (List.cons.inj (h1 ((List.cons_prefix_cons).2 ⟨rfl, h⟩))).2) (fun h => (List.cons.inj (h2 ((List.cons_prefix_cons).2 ⟨rfl, h⟩))).2)
/-- the keys of values, one behind the other -/
def KL : List Vl → List Bool → List UInt8 → Prop
  | [], [], L => L = []
  | v :: vs, d :: ds, L => ∃ K R, KX v d K ∧ KL vs ds R ∧ L = K ++ R
  | _, _, _ => False
theorem kl_cmp {a b : List Vl} (ha : ∀ c : Nat, c < a.length → vE (a.getD c v0) = true) (hb : ∀ c : Nat, c < a.length → vE (b.getD c v0) = true) : ∀ {cs : List Int} {ds : List Bool} {L M : List UInt8}, (∀ c ∈ cs, c.toNat < a.length) →
    KL (cs.map fun c => a.getD c.toNat v0) ds L → KL (cs.map fun c => b.getD c.toNat v0) ds M → cb L M = rO a b cs ds
  | [], [], L, M, _, h1, h2 => by
    rw [show L = [] from h1, show M = [] from h2]
    rfl
  | c :: cs, d :: ds, L, M, hc, h1, h2 => by
    obtain ⟨K1, R1, k1, r1, rfl⟩ := h1
    obtain ⟨K2, R2, k2, r2, rfl⟩ := h2
    have va := ha _ (hc c List.mem_cons_self)
    have vb := hb _ (hc c List.mem_cons_self)
    rw [cb_free R1 R2 (kx_free va vb k1 k2) (kx_free vb va k2 k1), kx_cmp va vb k1 k2, rO, kl_cmp ha hb (fun c h => hc c (List.mem_cons_of_mem _ h)) r1 r2]
    by_cases z : oE (a.getD c.toNat v0) (b.getD c.toNat v0) = 0
    · rw [if_pos z, z]
      cases d <;> simp
    · rw [if_neg z]
      cases d with
      | true => simp only [if_true]; rw [if_neg (by omega)]
      | false => simp only [Bool.false_eq_true, if_false]; rw [if_neg z]
  | [], _ :: _, _, _, _, h, _ => h.elim
  | _ :: _, [], _, _, _, h, _ => h.elim
theorem keyAll_ev (vs : List Vl) (ds : List Bool) (hd : ds.length = vs.length) (h2 : vs.length ≤ 2) (hV : ∀ v ∈ vs, vE v = true) : ∀ (m i : Nat) (B : List UInt8), i + m = vs.length → B.length ≤ 4000 * i → ∃ L : List UInt8, KL (vs.drop i) (ds.drop i) L ∧
    Ev (fun k => F64c3 k ds (ints B) vs (vs.length : Int) (i : Int)) ((ba (B ++ L), ()), ((), (), ())) := by
  intro m
  induction m with
  | zero =>
    intro i B hi hB
    have e1 : vs.drop i = [] := List.drop_eq_nil_of_le (by omega)
    have e2 : ds.drop i = [] := List.drop_eq_nil_of_le (by omega)
    refine ⟨[], by rw [e1, e2]; rfl, Ev.step 1 (fun k => F64c3_eq k _ _ _ _ _) ?_⟩
    simp only [lt_false (show vs.length ≤ i by omega), Bool.false_eq_true, if_false, bytes_ints, List.append_nil]
    exact Ev.now _
  | succ m ih =>
    intro i B hi hB
    have hlt : i < vs.length := by omega
    have hlt2 : i < ds.length := by omega
    have hv : vE (vs.getD i v0) = true := hV _ (List.mem_of_getElem? (atD hlt))
    obtain ⟨K, hS, hK, k1⟩ := key_exact2 (show vOk _ _ _ _ _ _ _ _ _ = true from hv)
    have hlen : (if ds.getD i false = true then flip (u8 (IntKind.i64.wrap ((vs.getD i v0).1 + 1)) :: K) else u8 (IntKind.i64.wrap ((vs.getD i v0).1 + 1)) :: K).length ≤ 4000 := by
      cases ds.getD i false with
      | true => simp only [if_true]; rw [flip_len, List.length_cons]; omega
      | false => simp only [Bool.false_eq_true, if_false]; rw [List.length_cons]; omega
    have hX : KX (vs.getD i v0) (ds.getD i false) (if ds.getD i false = true then flip (u8 (IntKind.i64.wrap ((vs.getD i v0).1 + 1)) :: K) else u8 (IntKind.i64.wrap ((vs.getD i v0).1 + 1)) :: K) := ⟨K, hS, rfl⟩
    have k1 := k1 (ds.getD i false)
    generalize (if ds.getD i false = true then flip (u8 (IntKind.i64.wrap ((vs.getD i v0).1 + 1)) :: K) else u8 (IntKind.i64.wrap ((vs.getD i v0).1 + 1)) :: K) = K' at hlen hX k1
    obtain ⟨L, hL, g1⟩ := ih (i + 1) (B ++ K') (by omega) (by rw [List.length_append]; omega)
    have e1 : vs.drop i = vs.getD i v0 :: vs.drop (i + 1) := by
      rw [List.drop_eq_getElem_cons hlt, List.getD_eq_getElem?_getD, List.getElem?_eq_getElem hlt]; rfl
    have e2 : ds.drop i = ds.getD i false :: ds.drop (i + 1) := by
      rw [List.drop_eq_getElem_cons hlt2, List.getD_eq_getElem?_getD, List.getElem?_eq_getElem hlt2]; rfl
    refine ⟨K' ++ L, by rw [e1, e2]; exact ⟨K', L, hX, hL, rfl⟩, Ev.step 1 (fun k => F64c3_eq k _ _ _ _ _) ?_⟩
    simp only [lt_true hlt, ge0, if_true, Int.toNat_natCast, atD (d := v0) hlt, atD (d := false) hlt2, Option.bind_some]
    refine Ev.bind k1 ?_
    have c : decide ((ints B).length + (ints K').length ≤ 140737488355328) = true := decide_eq_true (by rw [ints_len, ints_len]; omega)
    simp only [c, if_true, ints_app, wrap_succ (show i < 9223372036854775807 by omega)]
    rw [← List.append_assoc]
    exact g1
theorem KeyAll_im (vs : List Vl) (ds : List Bool) (hd : ds.length = vs.length) (h2 : vs.length ≤ 2) (hV : ∀ v ∈ vs, vE v = true) (hs : ∀ v ∈ vs, szOk v) : ∃ L : List UInt8, KL vs ds L ∧ Ev (fun k => F22 k vs ds) ((ba L, ()), ((), (), ())) := by
  obtain ⟨L, hL, h1⟩ := keyAll_ev vs ds hd h2 hV vs.length 0 [] (by omega) (by simp)
  rw [List.drop_zero, List.drop_zero] at hL
  refine ⟨L, hL, Ev.step 2 (fun k => F22_eq k _ _) ?_⟩
  simp only [decide_eq_false (show ¬ (vs.length : Int) > 2 by omega), Bool.false_eq_true, if_false, hd, bne_self_eq_false]
  have h := all_loop (L := fun k i => F22c4 k vs ds vs (vs.length : Int) i) (n := vs.length) (no := (((⟨#[]⟩ : ByteArray), ()), ((), (), ()))) (yes := ((ba L, ()), ((), (), ()))) (c := fun i => vE (vs.getD i v0))
    (fun i hi hc => by rw [hV _ (List.mem_of_getElem? (atD hi))] at hc; cases hc)
    (fun i hi hc r hr => by
      refine Ev.step 1 (fun k => F22c4_eq k _ _ _ _ _) ?_
      simp only [lt_true hi, ge0, if_true, Int.toNat_natCast, atD (d := v0) hi, Option.bind_some]
      refine Ev.bind (ValueOk_ev _ _ _ _ _ _ _ _ _ (szD hs hi).1 (szD hs hi).2) ?_
      have hc : (vE (vs.getD i v0)) = true := hc
      unfold vE at hc
      simp only [hc, Bool.not_true, Bool.false_eq_true, if_false, wrap_succ (show i < 9223372036854775807 by omega)]
      exact hr)
    (by
      refine Ev.step 1 (fun k => F22c4_eq k _ _ _ _ _) ?_
      simp only [lt_false (Nat.le_refl vs.length), Bool.false_eq_true, if_false]
      exact Ev.bind (Ev.step 2 (fun k => F64_eq k _ _) h1) (Ev.now _))
  have e : (List.range vs.length).all (fun i => vE (vs.getD i v0)) = true := by
    rw [List.all_eq_true]
    intro i hi
    exact hV _ (List.mem_of_getElem? (atD (List.mem_range.1 hi)))
  rw [e] at h
  exact h
theorem rO_swap {a b : List Vl} (ha : ∀ c : Nat, c < a.length → vE (a.getD c v0) = true) (hb : ∀ c : Nat, c < a.length → vE (b.getD c v0) = true) : ∀ {cs : List Int} {ds : List Bool}, (∀ c ∈ cs, c.toNat < a.length) → rO b a cs ds = -rO a b cs ds
  | [], ds, _ => by simp [rO]
  | c :: cs, [], _ => by simp [rO]
  | c :: cs, d :: ds, hc => by
    have sw := oE_swap (ha _ (hc c List.mem_cons_self)) (hb _ (hc c List.mem_cons_self))
    rw [rO, rO, sw, rO_swap ha hb (fun c h => hc c (List.mem_cons_of_mem _ h))]
    by_cases z : oE (a.getD c.toNat v0) (b.getD c.toNat v0) = 0
    · rw [if_pos z, if_pos (by omega)]
    · rw [if_neg z, if_neg (by omega)]
      cases d <;> simp
theorem rO_range {a b : List Vl} (ha : ∀ c : Nat, c < a.length → vE (a.getD c v0) = true) (hb : ∀ c : Nat, c < a.length → vE (b.getD c v0) = true) : ∀ {cs : List Int} {ds : List Bool}, (∀ c ∈ cs, c.toNat < a.length) → -1 ≤ rO a b cs ds ∧ rO a b cs ds ≤ 1
  | [], ds, _ => by simp [rO]
  | c :: cs, [], _ => by simp [rO]
  | c :: cs, d :: ds, hc => by
    have rg := oE_range (ha _ (hc c List.mem_cons_self)) (hb _ (hc c List.mem_cons_self))
    have ih := rO_range ha hb (ds := ds) (fun c h => hc c (List.mem_cons_of_mem _ h))
    rw [rO]
    split
    · exact ih
    · split <;> omega
theorem FnKeyRows : PureFnKeyRows := by
  intro code w
  have w8 : ∀ y ∈ code, 0 ≤ y ∧ y ≤ 255 := fun y hy => u8_of (w.2 y hy)
  have fin : Ev (fun k => F5 k code) ((true, ()), ((), ())) := by
    refine Ev.step 2 (fun k => F5_eq k _) ?_
    by_cases hlen : code.length > 1048576
    · simp only [decide_eq_true (show (code.length : Int) > 1048576 by omega), if_true]
      exact Ev.now _
    simp only [decide_eq_false (show ¬ (code.length : Int) > 1048576 by omega), Bool.false_eq_true, if_false]
    obtain ⟨a, b, cs, ds, la, lb, lc, ld, sa, sb, hd⟩ := drawRows_ev code w8
    obtain ⟨im, sp⟩ := RowOrder_both a b cs ds (by omega) (by omega) (by omega) (by omega) sa sb
    refine Ev.bind hd (Ev.bind im (Ev.bind sp ?_))
    simp only [bne_self_eq_false, Bool.false_eq_true, if_false]
    by_cases c2 : rowV a b cs ds = 2
    · simp only [beq_iff_eq.2 c2, if_true]
      refine Ev.bind sp ?_
      simp only [c2, beq_self_eq_true]
      exact Ev.now _
    simp only [beq_eq_false_iff_ne.2 c2, Bool.false_eq_true, if_false]
    by_cases c3 : cs.length > 2
    · simp only [decide_eq_true (show (cs.length : Int) > 2 by omega), if_true]
      refine Ev.bind sp ?_
      simp only [beq_self_eq_true]
      exact Ev.now _
    simp only [decide_eq_false (show ¬ (cs.length : Int) > 2 by omega), Bool.false_eq_true, if_false]
    have ok : rowsOk a b cs ds = true := by
      unfold rowV at c2
      by_cases h : rowsOk a b cs ds = true
      · exact h
      · rw [if_neg h] at c2; exact absurd rfl c2
    have eV : rowV a b cs ds = rO a b cs ds := by unfold rowV; rw [if_pos ok]
    have ok0 := ok
    unfold rowsOk at ok
    simp only [Bool.and_eq_true, decide_eq_true_eq] at ok
    obtain ⟨⟨⟨⟨e1, e2⟩, va⟩, vb⟩, ck⟩ := ok
    have ha : ∀ c : Nat, c < a.length → vE (a.getD c v0) = true := fun c hc => allV_get va hc
    have hb : ∀ c : Nat, c < a.length → vE (b.getD c v0) = true := fun c hc => allV_get vb (by omega)
    have hc : ∀ c ∈ cs, 0 ≤ c ∧ c.toNat < a.length := by
      intro c hm
      obtain ⟨i, hi, rfl⟩ := List.mem_iff_getElem.1 hm
      have := colsOk_get ck hi
      rw [show cs.getD i 0 = cs[i] by rw [List.getD_eq_getElem?_getD, List.getElem?_eq_getElem hi]; rfl] at this
      exact this
    have hc2 : ∀ c ∈ cs, c.toNat < a.length := fun c h => (hc c h).2
    have rg := rO_range ha hb (cs := cs) (ds := ds) hc2
    rw [eV]
    -- the values by which the rows are compared
    have mem : ∀ (l : List Vl), l.length = a.length → (∀ c : Nat, c < a.length → vE (l.getD c v0) = true) → (∀ v ∈ l, szOk v) → (∀ v ∈ cs.map (fun c => l.getD c.toNat v0), vE v = true) ∧ (∀ v ∈ cs.map (fun c => l.getD c.toNat v0), szOk v) := by
      intro l hl h1 h2
      constructor
      · intro v hv
        obtain ⟨c, hcm, rfl⟩ := List.mem_map.1 hv
        exact h1 _ (hc2 c hcm)
      · intro v hv
        obtain ⟨c, hcm, rfl⟩ := List.mem_map.1 hv
        exact szD h2 (by rw [hl]; exact hc2 c hcm)
    obtain ⟨m1, m2⟩ := mem a rfl ha sa
    obtain ⟨m3, m4⟩ := mem b e1 hb sb
    obtain ⟨L, hL, k1⟩ := KeyAll_im (cs.map fun c => a.getD c.toNat v0) ds (by rw [List.length_map]; exact e2) (by rw [List.length_map]; omega) m1 m2
    obtain ⟨M, hM, k2⟩ := KeyAll_im (cs.map fun c => b.getD c.toNat v0) ds (by rw [List.length_map]; exact e2) (by rw [List.length_map]; omega) m3 m4
    have hcmp := kl_cmp ha hb hc2 hL hM
    obtain ⟨im2, _⟩ := RowOrder_both b a cs ds (by omega) (by omega) (by omega) (by omega) sb sa
    have eW : rowV b a cs ds = -rO a b cs ds := by
      unfold rowV
      have : rowsOk b a cs ds = true := by
        unfold rowsOk
        simp only [Bool.and_eq_true, decide_eq_true_eq]
        exact ⟨⟨⟨⟨e1.symm, e2⟩, vb⟩, va⟩, by rw [e1]; exact ck⟩
      rw [if_pos this, rO_swap ha hb hc2]
    rw [eW] at im2
    have last : Ev (fun k => F5c10 k a b cs ds (rO a b cs ds) (cs.map fun c => a.getD c.toNat v0) (cs.map fun c => b.getD c.toNat v0) (cs.length : Int)) ((true, ()), ((), ())) := by
      refine Ev.step 1 (fun k => F5c10_eq k _ _ _ _ _ _ _ _) ?_
      simp only [lt_false (Nat.le_refl cs.length), Bool.false_eq_true, if_false]
      refine Ev.bind k1 (Ev.bind k2 (Ev.bind (jtSign_ev (ba L) (ba M)) ?_))
      have t1 : tc (ba L) (ba M) = rO a b cs ds := hcmp
      simp only [t1, beq_self_eq_true, if_true]
      refine Ev.bind im2 ?_
      have ew : IntKind.i64.wrap (0 - rO a b cs ds) = -rO a b cs ds := by rw [wrap64 (by omega) (by omega)]; omega
      simp only [ew, beq_self_eq_true]
      exact Ev.now _
    have loop : ∀ (m i : Nat), i + m = cs.length → Ev (fun k => F5c10 k a b cs ds (rO a b cs ds) ((cs.take i).map fun c => a.getD c.toNat v0) ((cs.take i).map fun c => b.getD c.toNat v0) (i : Int)) ((true, ()), ((), ())) := by
      intro m
      induction m with
      | zero =>
        intro i hi
        obtain rfl : i = cs.length := by omega
        rw [List.take_length]
        exact last
      | succ m ih =>
        intro i hi
        have hlt : i < cs.length := by omega
        have g := ih (i + 1) (by omega)
        have gc : cs[i]? = some (cs.getD i 0) := atD hlt
        have hcm := hc _ (List.mem_of_getElem? gc)
        have ga : a[(cs.getD i 0).toNat]? = some (a.getD (cs.getD i 0).toNat v0) := atD hcm.2
        have gb : b[(cs.getD i 0).toNat]? = some (b.getD (cs.getD i 0).toNat v0) := atD (by omega)
        have et : cs.take (i + 1) = cs.take i ++ [cs.getD i 0] := by
          rw [List.take_add_one, gc]; rfl
        rw [et, List.map_append, List.map_append] at g
        refine Ev.step 1 (fun k => F5c10_eq k _ _ _ _ _ _ _ _) ?_
        simp only [lt_true hlt, ge0, if_true, Int.toNat_natCast, gc, ga, gb, Option.bind_some, decide_eq_true hcm.1]
        have q1 : ∀ (l : List Vl) (v : Vl), l.length ≤ 2 → decide (l.length + [v].length ≤ 1466015503701) = true := fun l v h => decide_eq_true (by simp; omega)
        have l1 : ((cs.take i).map fun c => a.getD c.toNat v0).length ≤ 2 := by rw [List.length_map, List.length_take]; omega
        have l2 : ((cs.take i).map fun c => b.getD c.toNat v0).length ≤ 2 := by rw [List.length_map, List.length_take]; omega
        have z1 := q1 _ (a.getD (cs.getD i 0).toNat v0) l1
        have z2 := q1 _ (b.getD (cs.getD i 0).toNat v0) l2
        refine Ev.pos (fun k => z1) (Ev.pos (fun k => z2) ?_)
        simp only [wrap_succ (show i < 9223372036854775807 by omega)]
        exact g
    exact loop cs.length 0 (by omega)
  obtain ⟨k, hk⟩ := Ev.get fin
  exact ⟨k, _, hk⟩
end Go.Proofs.YtiojgdjpigcgaaaGreatDoor.R
end

section
/-- The row, under a short name, for the claim. -/
theorem Go.Proofs.YtiojgdjpigcgaaaGreatDoor.fnKeyRows_holds : Go.Proofs.YtiojgdjpigcgaaaGreatDoor.Rows.FnKeyRowsCardSaid := Go.Proofs.YtiojgdjpigcgaaaGreatDoor.fnKeyRows.card Go.Proofs.YtiojgdjpigcgaaaGreatDoor.R.FnKeyRows
end
