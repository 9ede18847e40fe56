/- A part of the proof that the law FnExactNodeGet answers true for every input: contracts of functions that it reaches, or its plain law. -/
import Derived.Test.YtcolgghllacloaaDoorCFnExactNodeGetx0
import Derived.Test.YtcolgghllacloaaDoorCFnExactNodeGetx1
import Derived.Test.YtcolgghllacloaaDoorCFnExactNodeGetx2
import Derived.Test.YtcolgghllacloaaDoorCFnExactNodeGetx3
import Derived.Test.YtcolgghllacloaaDoorCFnExactNodeGetx4
section
/-! Rf: a node's text, read by the reference. -/
set_option autoImplicit false
set_option linter.unusedSimpArgs false
set_option linter.unusedVariables false
namespace Go.Proofs.YtcolgghllacloaaDoor.R
open Go.Rf
abbrev bl (x : ByteArray) : List UInt8 := x.data.toList
theorem ba_bl (x : ByteArray) : ba (bl x) = x := ba_ext rfl
theorem bl_ba (L : List UInt8) : bl (ba L) = L := rfl
theorem bl_len (x : ByteArray) : (bl x).length = x.size := rfl
/-- entries, one behind another -/
def entsL : List ByteArray → List ByteArray → List UInt8
  | x :: K, y :: V => npEntL x y ++ entsL K V
  | _, _ => []
def entsN : List ByteArray → List Int → List UInt8
  | x :: K, y :: V => npEntN x y ++ entsN K V
  | _, _ => []
theorem entL_top (x y : ByteArray) (R : List UInt8) : npEntL x y ++ R = top2 x.size y.size ++ 58 :: (bl x ++ (bl y ++ R)) := by
  rw [npEntL_nat]
  simp [top2, dd]
theorem entN_top (x : ByteArray) (y : Nat) (R : List UInt8) : npEntN x (y : Int) ++ R = top2 x.size y ++ 58 :: (bl x ++ R) := by
  rw [npEntN_nat]
  simp [top2, dd]
theorem npL_ents : ∀ (K V : List ByteArray), V.length = K.length → ((List.range K.length).flatMap fun j => npEntL (K.getD j ByteArray.empty) (V.getD j ByteArray.empty)) = entsL K V
  | [], [], _ => rfl
  | x :: K, y :: V, h => by
    have ih := npL_ents K V (by simpa using h)
    rw [List.length_cons, List.range_succ_eq_map, List.flatMap_cons, List.flatMap_map]
    show npEntL x y ++ _ = npEntL x y ++ entsL K V
    rw [← ih]
    rfl
  | [], _ :: _, h => by simp at h
  | _ :: _, [], h => by simp at h
theorem npN_ents : ∀ (K : List ByteArray) (z : Int) (I : List Int), I.length = K.length → ((List.range K.length).flatMap fun j => npEntN (K.getD j ByteArray.empty) ((z :: I).getD (j + 1) 0)) = entsN K I
  | [], _, [], _ => rfl
  | x :: K, z, y :: V, h => by
    have ih := npN_ents K y V (by simpa using h)
    rw [List.length_cons, List.range_succ_eq_map, List.flatMap_cons, List.flatMap_map]
    show npEntN x y ++ _ = npEntN x y ++ entsN K V
    rw [← ih]
    rfl
  | [], _, _ :: _, h => by simp at h
  | _ :: _, _, [], h => by simp at h
theorem top2_ne (na nb : Nat) : top2 na nb ≠ [] := by unfold top2; simp
/-- of a text that two numbers begin -/
theorem at_top {na nb : Nat} {T : List UInt8} (n : Nat) : ((top2 na nb ++ 58 :: T).take ((top2 na nb).length + 1 + n)).drop ((top2 na nb).length + 1) = T.take n := by
  have e : top2 na nb ++ 58 :: T = (top2 na nb ++ [58]) ++ T := by simp
  have l : (top2 na nb).length + 1 = (top2 na nb ++ [58]).length := by simp
  rw [e, l, List.take_length_add_append, List.drop_left]
theorem off_top {na nb : Nat} {T : List UInt8} (n : Nat) : (top2 na nb ++ 58 :: T).drop ((top2 na nb).length + 1 + n) = T.drop n := by
  have e : top2 na nb ++ 58 :: T = (top2 na nb ++ [58]) ++ T := by simp
  have l : (top2 na nb).length + 1 = (top2 na nb ++ [58]).length := by simp
  rw [e, l, List.drop_length_add_append]
theorem mid_top {na nb : Nat} {T : List UInt8} (m n : Nat) : ((top2 na nb ++ 58 :: T).take ((top2 na nb).length + 1 + m + n)).drop ((top2 na nb).length + 1 + m) = (T.drop m).take n := by
  have e : top2 na nb ++ 58 :: T = (top2 na nb ++ [58]) ++ T := by simp
  have l : (top2 na nb).length + 1 = (top2 na nb ++ [58]).length := by simp
  rw [e, l, Nat.add_assoc, List.take_length_add_append, List.drop_length_add_append, List.drop_take]
  congr 1
  omega
theorem top_inj {na nb na' nb' : Nat} {T T' : List UInt8} (h : top2 na nb ++ 58 :: T = top2 na' nb' ++ 58 :: T') : T = T' := (part_one (no58_top2 na nb) (no58_top2 na' nb') h).2
theorem gt0_true {n : Nat} (h : 0 < n) : decide ((n : Int) > 0) = true := decide_eq_true (by omega)
theorem gt0_false : decide (((0 : Nat) : Int) > 0) = false := rfl
theorem okNode_mk {lf : Bool} {K V : List ByteArray} {I : List Int} (h1 : K.length ≤ 1048576) (h2 : V.length ≤ 1048576) (h3 : I.length ≤ 1048576) : okNode (lf, K, V, I, ()) := ⟨h1, h2, h3⟩
theorem leafGet_ev : ∀ (m : Nat) (M : List UInt8) (K V : List ByteArray), M.length ≤ m → M.length ≤ 1048576 → K.length ≤ 5 → V.length ≤ 5 → K.length = V.length → ∃ (lf ok : Bool) (K' V' : List ByteArray) (I' : List Int),
    Ev (fun k => F28c2 k (ba M) false [] [] [] true K V []) (((lf, K', V', I', ()), ok, ()), ((), ())) ∧ okNode (lf, K', V', I', ()) ∧
    (ok = true → lf = true ∧ I' = [] ∧ ∃ K2 V2, K' = K ++ K2 ∧ V' = V ++ V2 ∧ V2.length = K2.length ∧ M = entsL K2 V2) ∧
    (∀ K2 V2, M = entsL K2 V2 → V2.length = K2.length → K.length + K2.length ≤ 5 → (∀ x ∈ K2, 1 ≤ x.size ∧ x.size ≤ 96) → (∀ y ∈ V2, y.size ≤ 140) → ok = true ∧ lf = true ∧ K' = K ++ K2 ∧ V' = V ++ V2 ∧ I' = []) := by
  intro m
  induction m with
  | zero =>
    intro M K V hm _ hK hV _
    obtain rfl : M = [] := List.eq_nil_of_length_eq_zero (by omega)
    refine ⟨true, true, K, V, [], Ev.step 1 (fun k => F28c2_eq k _ _ _ _ _ _ _ _ _) ?_, okNode_mk (by omega) (by omega) (by simp), fun _ => ⟨rfl, rfl, [], [], by simp, by simp, rfl, rfl⟩, fun K2 V2 h1 h2 _ _ _ => ?_⟩
    · simp only [ba_size, List.length_nil, gt0_false, Bool.false_eq_true, if_false]
      exact Ev.now _
    · match K2, V2, h1, h2 with
      | [], [], _, _ => exact ⟨rfl, rfl, by simp, by simp, rfl⟩
      | x :: K2, y :: V2, h1, _ =>
        rw [entsL, entL_top] at h1
        exact absurd h1.symm (by simp)
      | [], _ :: _, _, h => simp at h
      | _ :: _, [], _, h => simp at h
  | succ m ih =>
    intro M K V hm hM hK hV hKV
    by_cases h0 : M.length = 0
    · exact (by
        obtain rfl : M = [] := List.eq_nil_of_length_eq_zero (by omega)
        exact ih [] K V (by simp) (by simp) hK hV hKV)
    have hpos : 0 < (ba M).size := by rw [ba_size]; omega
    have fail : ∀ (lf : Bool) (K' V' : List ByteArray) (I' : List Int), okNode (lf, K', V', I', ()) → Ev (fun k => F28c2 k (ba M) false [] [] [] true K V []) (((lf, K', V', I', ()), false, ()), ((), ())) → (∀ x y K2 V2, M = entsL (x :: K2) (y :: V2) → K.length + (K2.length + 1) ≤ 5 → 1 ≤ x.size → x.size ≤ 96 → y.size ≤ 140 → False) → ∃ (lf ok : Bool) (K' V' : List ByteArray) (I' : List Int),
        Ev (fun k => F28c2 k (ba M) false [] [] [] true K V []) (((lf, K', V', I', ()), ok, ()), ((), ())) ∧ okNode (lf, K', V', I', ()) ∧
        (ok = true → lf = true ∧ I' = [] ∧ ∃ K2 V2, K' = K ++ K2 ∧ V' = V ++ V2 ∧ V2.length = K2.length ∧ M = entsL K2 V2) ∧
        (∀ K2 V2, M = entsL K2 V2 → V2.length = K2.length → K.length + K2.length ≤ 5 → (∀ x ∈ K2, 1 ≤ x.size ∧ x.size ≤ 96) → (∀ y ∈ V2, y.size ≤ 140) → ok = true ∧ lf = true ∧ K' = K ++ K2 ∧ V' = V ++ V2 ∧ I' = []) := fun lf K' V' I' hok he hn => by
      refine ⟨lf, false, K', V', I', he, hok, (fun h => by cases h), fun K2 V2 h1 h2 h3 h4 h5 => ?_⟩
      match K2, V2, h1, h2, h3, h4, h5 with
      | [], [], h1, _, _, _, _ => rw [h1] at h0; exact absurd rfl h0
      | x :: K2, y :: V2, h1, _, h3, h4, h5 => exact (hn x y K2 V2 h1 (by simpa using h3) (h4 x (by simp)).1 (h4 x (by simp)).2 (h5 y (by simp))).elim
      | [], _ :: _, _, h, _, _, _ => simp at h
      | _ :: _, [], _, h, _, _, _ => simp at h
    by_cases h4 : K.length ≤ 4
    · obtain ⟨a, b, h, e1, hs, hc⟩ := nums_ev M hM
      have c4 : decide ((K.length : Int) ≤ 4) = true := decide_eq_true (by omega)
      rcases hs with rfl | ⟨na, nb, T, p1, p2, p3, rfl, rfl, rfl, rfl⟩
      · refine fail false [] [] [] (okNode_mk (by simp) (by simp) (by simp)) (Ev.step 1 (fun k => F28c2_eq k _ _ _ _ _ _ _ _ _) ?_) (fun x y K2 V2 h1 _ q1 q2 q3 => ?_)
        · simp only [gt0_true hpos, c4, if_true]
          refine Ev.bind e1 ?_
          simp only [beq_self_eq_true, if_true]
          exact Ev.now _
        · rw [entsL, entL_top] at h1
          have := (hc _ _ _ q1 q2 q3 h1).2.2
          omega
      · have hz : ((((top2 na nb).length + 1 : Nat) : Int) == 0) = false := beq_eq_false_iff_ne.2 (by omega)
        have hlen : (top2 na nb ++ 58 :: T).length = (top2 na nb).length + 1 + T.length := by simp; omega
        have w1 : IntKind.i64.wrap ((((top2 na nb).length + 1 : Nat) : Int) + (na : Int)) = (((top2 na nb).length + 1 + na : Nat) : Int) := by rw [wrap64 (by omega) (by omega)]; omega
        have w2 : IntKind.i64.wrap ((((top2 na nb).length + 1 + na : Nat) : Int) + (nb : Int)) = (((top2 na nb).length + 1 + na + nb : Nat) : Int) := by rw [wrap64 (by omega) (by omega)]; omega
        by_cases hfit : na + nb ≤ T.length
        · have q1 : decide ((((top2 na nb).length + 1 + na + nb : Nat) : Int) > ((ba (top2 na nb ++ 58 :: T)).size : Int)) = false := decide_eq_false (by rw [ba_size, hlen]; omega)
          have q2 : (decide ((0 : Int) ≤ (((top2 na nb).length + 1 : Nat) : Int)) && decide ((((top2 na nb).length + 1 : Nat) : Int) ≤ (((top2 na nb).length + 1 + na : Nat) : Int)) && decide ((((top2 na nb).length + 1 + na : Nat) : Int) ≤ ((ba (top2 na nb ++ 58 :: T)).size : Int))) = true := by
            simp only [Bool.and_eq_true, decide_eq_true_eq]
            rw [ba_size, hlen]
            omega
          have q3 : (decide ((0 : Int) ≤ (((top2 na nb).length + 1 + na : Nat) : Int)) && decide ((((top2 na nb).length + 1 + na : Nat) : Int) ≤ (((top2 na nb).length + 1 + na + nb : Nat) : Int)) && decide ((((top2 na nb).length + 1 + na + nb : Nat) : Int) ≤ ((ba (top2 na nb ++ 58 :: T)).size : Int))) = true := by
            simp only [Bool.and_eq_true, decide_eq_true_eq]
            rw [ba_size, hlen]
            omega
          have q4 : (decide ((0 : Int) ≤ (((top2 na nb).length + 1 + na + nb : Nat) : Int)) && decide ((((top2 na nb).length + 1 + na + nb : Nat) : Int) ≤ ((ba (top2 na nb ++ 58 :: T)).size : Int))) = true := by
            simp only [Bool.and_eq_true, decide_eq_true_eq]
            rw [ba_size, hlen]
            omega
          have r1 : ∀ s : ByteArray, decide (K.length + [s].length ≤ 8796093022208) = true := fun s => decide_eq_true (by simp; omega)
          have r2 : ∀ s : ByteArray, decide (V.length + [s].length ≤ 8796093022208) = true := fun s => decide_eq_true (by simp; omega)
          have hxs : (ba (T.take na)).size = na := by rw [ba_size, List.length_take]; omega
          have hys : (ba ((T.drop na).take nb)).size = nb := by rw [ba_size, List.length_take, List.length_drop]; omega
          obtain ⟨lf, ok, K', V', I', f1, f2, f3, f4⟩ := ih (T.drop (na + nb)) (K ++ [ba (T.take na)]) (V ++ [ba ((T.drop na).take nb)]) (by rw [hlen] at hm; rw [List.length_drop]; omega) (by rw [hlen] at hM; rw [List.length_drop]; omega) (by simp; omega) (by simp; omega) (by simp; omega)
          refine ⟨lf, ok, K', V', I', Ev.step 1 (fun k => F28c2_eq k _ _ _ _ _ _ _ _ _) ?_, f2, fun ho => ?_, fun K2 V2 g1 g2 g3 g4 g5 => ?_⟩
          · simp only [gt0_true hpos, c4, if_true]
            refine Ev.bind e1 ?_
            simp only [hz, w1, w2, q1, q2, q3, q4, r1, r2, Bool.false_eq_true, if_false, if_true, Int.toNat_natCast, ba_extract]
            rw [at_top, mid_top, ba_size, List.take_length, Nat.add_assoc _ na nb, off_top]
            exact f1
          · obtain ⟨o1, o2, K2, V2, o3, o4, o5, o6⟩ := f3 ho
            refine ⟨o1, o2, ba (T.take na) :: K2, ba ((T.drop na).take nb) :: V2, by rw [o3]; simp, by rw [o4]; simp, by simpa using o5, ?_⟩
            rw [entsL, entL_top, hxs, hys, ← o6, bl_ba, bl_ba]
            congr 2
            rw [show T.drop (na + nb) = (T.drop na).drop nb by rw [List.drop_drop], List.take_append_drop, List.take_append_drop]
          · match K2, V2, g1, g2, g3, g4, g5 with
            | [], [], g1, _, _, _, _ => exact absurd g1 (by unfold entsL; simp)
            | x :: K2, y :: V2, g1, g2, g3, g4, g5 =>
              have gx := g4 x (by simp)
              have gy := g5 y (by simp)
              rw [entsL, entL_top] at g1
              obtain ⟨s1, s2, s3⟩ := hc _ _ _ gx.1 gx.2 gy g1
              have s1 : na = x.size := by omega
              have s2 : nb = y.size := by omega
              have s4 := top_inj g1
              have tx : T.take na = bl x := by rw [s4, s1, ← bl_len, List.take_left]
              have tdx : T.drop na = bl y ++ entsL K2 V2 := by rw [s4, s1, ← bl_len, List.drop_left]
              have ty : (T.drop na).take nb = bl y := by rw [tdx, s2, ← bl_len, List.take_left]
              have tr : T.drop (na + nb) = entsL K2 V2 := by rw [← List.drop_drop, tdx, s2, ← bl_len, List.drop_left]
              rw [tx, ty, ba_bl, ba_bl] at f4
              obtain ⟨t1, t2, t3, t4, t5⟩ := f4 K2 V2 tr (by simpa using g2) (by simp at g3 ⊢; omega) (fun z hz => g4 z (by simp [hz])) (fun z hz => g5 z (by simp [hz]))
              exact ⟨t1, t2, by rw [t3]; simp, by rw [t4]; simp, t5⟩
            | [], _ :: _, _, h, _, _, _ => simp at h
            | _ :: _, [], _, h, _, _, _ => simp at h
        · have q1 : decide ((((top2 na nb).length + 1 + na + nb : Nat) : Int) > ((ba (top2 na nb ++ 58 :: T)).size : Int)) = true := decide_eq_true (by rw [ba_size, hlen]; omega)
          refine fail false [] [] [] (okNode_mk (by simp) (by simp) (by simp)) (Ev.step 1 (fun k => F28c2_eq k _ _ _ _ _ _ _ _ _) ?_) (fun x y K2 V2 h1 _ t1 t2 t3 => ?_)
          · simp only [gt0_true hpos, c4, if_true]
            refine Ev.bind e1 ?_
            simp only [hz, w1, w2, q1, Bool.false_eq_true, if_false, if_true]
            exact Ev.now _
          · rw [entsL, entL_top] at h1
            obtain ⟨s1, s2, s3⟩ := hc _ _ _ t1 t2 t3 h1
            have s4 := top_inj h1
            have : T.length = x.size + (y.size + (entsL K2 V2).length) := by rw [s4, List.length_append, List.length_append, bl_len, bl_len]
            omega
    · have c4 : decide ((K.length : Int) ≤ 4) = false := decide_eq_false (by omega)
      have cz : (((ba M).size : Int) == 0) = false := beq_eq_false_iff_ne.2 (by omega)
      refine fail true K V [] (okNode_mk (by omega) (by omega) (by simp)) (Ev.step 1 (fun k => F28c2_eq k _ _ _ _ _ _ _ _ _) ?_) (fun x y K2 V2 h1 h2 _ _ _ => by omega)
      simp only [gt0_true hpos, c4, Bool.false_eq_true, if_false, if_true, cz]
      exact Ev.now _
end Go.Proofs.YtcolgghllacloaaDoor.R
end

section
/-! Rf: a node's text, read by the reference: inner nodes; the whole. -/
set_option autoImplicit false
set_option linter.unusedSimpArgs false
set_option linter.unusedVariables false
namespace Go.Proofs.YtcolgghllacloaaDoor.R
open Go.Rf
theorem innerGet_ev : ∀ (m : Nat) (M : List UInt8) (K : List ByteArray) (I : List Int), M.length ≤ m → M.length ≤ 1048576 → K.length ≤ 5 → I.length = K.length + 1 → ∃ (lf ok : Bool) (K' V' : List ByteArray) (I' : List Int),
    Ev (fun k => F29c6 k (ba M) false [] [] [] false K [] I) (((lf, K', V', I', ()), ok, ()), ((), ())) ∧ okNode (lf, K', V', I', ()) ∧
    (ok = true → lf = false ∧ V' = [] ∧ ∃ K2 I2, K' = K ++ K2 ∧ I' = I ++ I2 ∧ I2.length = K2.length ∧ M = entsN K2 I2) ∧
    (∀ K2 I2, M = entsN K2 I2 → I2.length = K2.length → K.length + K2.length ≤ 5 → (∀ x ∈ K2, 1 ≤ x.size ∧ x.size ≤ 96) → (∀ y ∈ I2, 0 ≤ y ∧ y ≤ 140) → ok = true ∧ lf = false ∧ K' = K ++ K2 ∧ I' = I ++ I2 ∧ V' = []) := by
  intro m
  induction m with
  | zero =>
    intro M K I hm _ hK hI
    obtain rfl : M = [] := List.eq_nil_of_length_eq_zero (by omega)
    refine ⟨false, true, K, [], I, Ev.step 1 (fun k => F29c6_eq k _ _ _ _ _ _ _ _ _) ?_, okNode_mk (by omega) (by simp) (by omega), fun _ => ⟨rfl, rfl, [], [], by simp, by simp, rfl, rfl⟩, fun K2 I2 h1 h2 _ _ h5 => ?_⟩
    · simp only [ba_size, List.length_nil, gt0_false, Bool.false_eq_true, if_false]
      exact Ev.now _
    · match K2, I2, h1, h2, h5 with
      | [], [], _, _, _ => exact ⟨rfl, rfl, by simp, by simp, rfl⟩
      | x :: K2, y :: I2, h1, _, h5 =>
        have h5 := h5 y (by simp)
        obtain ⟨y, rfl⟩ : ∃ q : Nat, y = (q : Int) := ⟨y.toNat, by omega⟩
        rw [entsN, entN_top] at h1
        exact absurd h1.symm (by simp)
      | [], _ :: _, _, h, _ => simp at h
      | _ :: _, [], _, h, _ => simp at h
  | succ m ih =>
    intro M K I hm hM hK hI
    by_cases h0 : M.length = 0
    · exact (by
        obtain rfl : M = [] := List.eq_nil_of_length_eq_zero (by omega)
        exact ih [] K I (by simp) (by simp) hK hI)
    have hpos : 0 < (ba M).size := by rw [ba_size]; omega
    have fail : ∀ (lf : Bool) (K' V' : List ByteArray) (I' : List Int), okNode (lf, K', V', I', ()) → Ev (fun k => F29c6 k (ba M) false [] [] [] false K [] I) (((lf, K', V', I', ()), false, ()), ((), ())) → (∀ x (y : Nat) K2 I2, M = entsN (x :: K2) ((y : Int) :: I2) → K.length + (K2.length + 1) ≤ 5 → 1 ≤ x.size → x.size ≤ 96 → y ≤ 140 → False) → ∃ (lf ok : Bool) (K' V' : List ByteArray) (I' : List Int),
        Ev (fun k => F29c6 k (ba M) false [] [] [] false K [] I) (((lf, K', V', I', ()), ok, ()), ((), ())) ∧ okNode (lf, K', V', I', ()) ∧
        (ok = true → lf = false ∧ V' = [] ∧ ∃ K2 I2, K' = K ++ K2 ∧ I' = I ++ I2 ∧ I2.length = K2.length ∧ M = entsN K2 I2) ∧
        (∀ K2 I2, M = entsN K2 I2 → I2.length = K2.length → K.length + K2.length ≤ 5 → (∀ x ∈ K2, 1 ≤ x.size ∧ x.size ≤ 96) → (∀ y ∈ I2, 0 ≤ y ∧ y ≤ 140) → ok = true ∧ lf = false ∧ K' = K ++ K2 ∧ I' = I ++ I2 ∧ V' = []) := fun lf K' V' I' hok he hn => by
      refine ⟨lf, false, K', V', I', he, hok, (fun h => by cases h), fun K2 I2 h1 h2 h3 h4 h5 => ?_⟩
      match K2, I2, h1, h2, h3, h4, h5 with
      | [], [], h1, _, _, _, _ => rw [h1] at h0; exact absurd rfl h0
      | x :: K2, y :: I2, h1, _, h3, h4, h5 =>
        have h5 := h5 y (by simp)
        obtain ⟨y, rfl⟩ : ∃ q : Nat, y = (q : Int) := ⟨y.toNat, by omega⟩
        exact (hn x y K2 I2 h1 (by simpa using h3) (h4 x (by simp)).1 (h4 x (by simp)).2 (by omega)).elim
      | [], _ :: _, _, h, _, _, _ => simp at h
      | _ :: _, [], _, h, _, _, _ => simp at h
    by_cases h4 : K.length ≤ 4
    · obtain ⟨a, b, h, e1, hs, hc⟩ := nums_ev M hM
      have c4 : decide ((K.length : Int) ≤ 4) = true := decide_eq_true (by omega)
      rcases hs with rfl | ⟨na, nb, T, p1, p2, p3, rfl, rfl, rfl, rfl⟩
      · refine fail false [] [] [] (okNode_mk (by simp) (by simp) (by simp)) (Ev.step 1 (fun k => F29c6_eq k _ _ _ _ _ _ _ _ _) ?_) (fun x y K2 I2 h1 _ q1 q2 q3 => ?_)
        · simp only [gt0_true hpos, c4, if_true]
          refine Ev.bind e1 ?_
          simp only [beq_self_eq_true, if_true]
          exact Ev.now _
        · rw [entsN, entN_top] at h1
          have := (hc _ _ _ q1 q2 q3 h1).2.2
          omega
      · have hz : ((((top2 na nb).length + 1 : Nat) : Int) == 0) = false := beq_eq_false_iff_ne.2 (by omega)
        have hlen : (top2 na nb ++ 58 :: T).length = (top2 na nb).length + 1 + T.length := by simp; omega
        have w1 : IntKind.i64.wrap ((((top2 na nb).length + 1 : Nat) : Int) + (na : Int)) = (((top2 na nb).length + 1 + na : Nat) : Int) := by rw [wrap64 (by omega) (by omega)]; omega
        by_cases hfit : na ≤ T.length
        · have q1 : decide ((((top2 na nb).length + 1 + na : Nat) : Int) > ((ba (top2 na nb ++ 58 :: T)).size : Int)) = false := decide_eq_false (by rw [ba_size, hlen]; omega)
          have q2 : (decide ((0 : Int) ≤ (((top2 na nb).length + 1 : Nat) : Int)) && decide ((((top2 na nb).length + 1 : Nat) : Int) ≤ (((top2 na nb).length + 1 + na : Nat) : Int)) && decide ((((top2 na nb).length + 1 + na : Nat) : Int) ≤ ((ba (top2 na nb ++ 58 :: T)).size : Int))) = true := by
            simp only [Bool.and_eq_true, decide_eq_true_eq]
            rw [ba_size, hlen]
            omega
          have q4 : (decide ((0 : Int) ≤ (((top2 na nb).length + 1 + na : Nat) : Int)) && decide ((((top2 na nb).length + 1 + na : Nat) : Int) ≤ ((ba (top2 na nb ++ 58 :: T)).size : Int))) = true := by
            simp only [Bool.and_eq_true, decide_eq_true_eq]
            rw [ba_size, hlen]
            omega
          have r1 : ∀ s : ByteArray, decide (K.length + [s].length ≤ 8796093022208) = true := fun s => decide_eq_true (by simp; omega)
          have r2 : ∀ s : Int, decide (I.length + [s].length ≤ 17592186044416) = true := fun s => decide_eq_true (by simp; omega)
          have hxs : (ba (T.take na)).size = na := by rw [ba_size, List.length_take]; omega
          obtain ⟨lf, ok, K', V', I', f1, f2, f3, f4⟩ := ih (T.drop na) (K ++ [ba (T.take na)]) (I ++ [(nb : Int)]) (by rw [hlen] at hm; rw [List.length_drop]; omega) (by rw [hlen] at hM; rw [List.length_drop]; omega) (by simp; omega) (by simp; omega)
          refine ⟨lf, ok, K', V', I', Ev.step 1 (fun k => F29c6_eq k _ _ _ _ _ _ _ _ _) ?_, f2, fun ho => ?_, fun K2 I2 g1 g2 g3 g4 g5 => ?_⟩
          · simp only [gt0_true hpos, c4, if_true]
            refine Ev.bind e1 ?_
            simp only [hz, w1, q1, q2, q4, r1, r2, Bool.false_eq_true, if_false, if_true, Int.toNat_natCast, ba_extract]
            rw [at_top, ba_size, List.take_length, off_top]
            exact f1
          · obtain ⟨o1, o2, K2, I2, o3, o4, o5, o6⟩ := f3 ho
            refine ⟨o1, o2, ba (T.take na) :: K2, (nb : Int) :: I2, by rw [o3]; simp, by rw [o4]; simp, by simpa using o5, ?_⟩
            rw [entsN, entN_top, hxs, ← o6, bl_ba]
            congr 2
            rw [List.take_append_drop]
          · match K2, I2, g1, g2, g3, g4, g5 with
            | [], [], g1, _, _, _, _ => exact absurd g1 (by unfold entsN; simp)
            | x :: K2, y :: I2, g1, g2, g3, g4, g5 =>
              have gx := g4 x (by simp)
              have gy := g5 y (by simp)
              obtain ⟨y, rfl⟩ : ∃ q : Nat, y = (q : Int) := ⟨y.toNat, by omega⟩
              rw [entsN, entN_top] at g1
              obtain ⟨s1, s2, s3⟩ := hc _ _ _ gx.1 gx.2 (by omega) g1
              have s1 : na = x.size := by omega
              have s4 := top_inj g1
              have tx : T.take na = bl x := by rw [s4, s1, ← bl_len, List.take_left]
              have tr : T.drop na = entsN K2 I2 := by rw [s4, s1, ← bl_len, List.drop_left]
              rw [tx, ba_bl, s2] at f4
              obtain ⟨t1, t2, t3, t4, t5⟩ := f4 K2 I2 tr (by simpa using g2) (by simp at g3 ⊢; omega) (fun z hz => g4 z (by simp [hz])) (fun z hz => g5 z (by simp [hz]))
              exact ⟨t1, t2, by rw [t3]; simp, by rw [t4]; simp, t5⟩
            | [], _ :: _, _, h, _, _, _ => simp at h
            | _ :: _, [], _, h, _, _, _ => simp at h
        · have q1 : decide ((((top2 na nb).length + 1 + na : Nat) : Int) > ((ba (top2 na nb ++ 58 :: T)).size : Int)) = true := decide_eq_true (by rw [ba_size, hlen]; omega)
          refine fail false [] [] [] (okNode_mk (by simp) (by simp) (by simp)) (Ev.step 1 (fun k => F29c6_eq k _ _ _ _ _ _ _ _ _) ?_) (fun x y K2 I2 h1 _ t1 t2 t3 => ?_)
          · simp only [gt0_true hpos, c4, if_true]
            refine Ev.bind e1 ?_
            simp only [hz, w1, q1, Bool.false_eq_true, if_false, if_true]
            exact Ev.now _
          · rw [entsN, entN_top] at h1
            obtain ⟨s1, s2, s3⟩ := hc _ _ _ t1 t2 t3 h1
            have s4 := top_inj h1
            have : T.length = x.size + (entsN K2 I2).length := by rw [s4, List.length_append, bl_len]
            omega
    · have c4 : decide ((K.length : Int) ≤ 4) = false := decide_eq_false (by omega)
      have cz : (((ba M).size : Int) == 0) = false := beq_eq_false_iff_ne.2 (by omega)
      refine fail false K [] I (okNode_mk (by omega) (by simp) (by omega)) (Ev.step 1 (fun k => F29c6_eq k _ _ _ _ _ _ _ _ _) ?_) (fun x y K2 I2 h1 h2 _ _ _ => by omega)
      simp only [gt0_true hpos, c4, Bool.false_eq_true, if_false, if_true, cz]
      exact Ev.now _
/-! ### a node's text -/
theorem npText_leaf {K V : List ByteArray} {I : List Int} (h : nodeOk (true, K, V, I, ()) = true) : npText (true, K, V, I, ()) = ba (76 :: entsL K V) := by
  have hno : ¬ (npZero (true, K, V, I, ()) = true ∨ npOk (true, K, V, I, ()) = false) := by
    rw [npOk_eq, h]
    simp [npZero]
  obtain ⟨a1, _⟩ := npOk_leaf h
  unfold npText
  rw [if_neg hno, if_pos rfl]
  show ba (npL K V K.length) = _
  unfold npL
  rw [npL_ents K V a1]
  rfl
theorem npText_inner {K V : List ByteArray} {z : Int} {I : List Int} (h : nodeOk (false, K, V, z :: I, ()) = true) : ∃ q : Nat, z = (q : Int) ∧ q ≤ 18 ∧ npText (false, K, V, z :: I, ()) = ba (78 :: (dd q ++ 58 :: entsN K I)) := by
  obtain ⟨a1, a2, a3, a4, a5, a6⟩ := npOk_inner h
  have hz := a5 0 z rfl
  obtain ⟨q, rfl⟩ : ∃ q : Nat, z = (q : Int) := ⟨z.toNat, by omega⟩
  refine ⟨q, rfl, by omega, ?_⟩
  have hno : ¬ (npZero (false, K, V, (q : Int) :: I, ()) = true ∨ npOk (false, K, V, (q : Int) :: I, ()) = false) := by
    rw [npOk_eq, h]
    have : ¬ K.length = 0 := by omega
    simp [npZero, this]
  unfold npText
  rw [if_neg hno, if_neg (by simp)]
  show ba (npN K ((q : Int) :: I) K.length) = _
  unfold npN
  rw [npN_ents K q I (by simpa using a1)]
  congr 1
  simp [itoa_nat, dd]
theorem npText_none {n : NodeT} (h : npText n ≠ ⟨#[]⟩) : nodeOk n = true := by
  cases ho : nodeOk n with
  | true => rfl
  | false =>
    exfalso
    apply h
    unfold npText
    rw [if_pos (.inr (by rw [npOk_eq]; exact ho))]
theorem u8_eq {c : UInt8} {n : UInt8} (h : c.toNat = n.toNat) : c = n := UInt8.toNat_inj.1 h
def zeroN : NodeT := (false, [], [], [], ())
theorem eqE (S : List UInt8) : ((ba S).toList == (⟨#[]⟩ : ByteArray).toList) = decide (S = []) := by
  rw [ba_list]
  have : (⟨#[]⟩ : ByteArray).toList = [] := by rw [Lib.toList_data]
  rw [this]
  cases S <;> rfl
/-- what a reader of nodes answers -/
def Reads (S : List UInt8) (n : NodeT) (ok : Bool) : Prop :=
  (ok = false → n = zeroN) ∧ (ok = true → (S = [] ∧ n = zeroN) ∨ (S ≠ [] ∧ nodeOk n = true ∧ npText n = ba S)) ∧ (S = [] → ok = true) ∧ (∀ n', S ≠ [] → nodeOk n' = true → npText n' = ba S → ok = true ∧ n = n')
theorem Reads.same {S : List UInt8} {n n' : NodeT} {ok ok' : Bool} (h : Reads S n ok) (h' : Reads S n' ok') : n = n' ∧ ok = ok' := by
  obtain ⟨a1, a2, a3, a4⟩ := h
  obtain ⟨b1, b2, b3, b4⟩ := h'
  cases ok with
  | true =>
    rcases a2 rfl with ⟨h1, h2⟩ | ⟨h1, h2, h3⟩
    · have := b3 h1
      subst this
      rcases b2 rfl with ⟨_, h4⟩ | ⟨h4, _⟩
      · exact ⟨h2.trans h4.symm, rfl⟩
      · exact absurd h1 h4
    · obtain ⟨h4, h5⟩ := b4 n h1 h2 h3
      exact ⟨h5.symm, h4.symm⟩
  | false =>
    cases ok' with
    | false => exact ⟨(a1 rfl).trans (b1 rfl).symm, rfl⟩
    | true =>
      rcases b2 rfl with ⟨h1, h2⟩ | ⟨h1, h2, h3⟩
      · have := a3 h1; cases this
      · have := (a4 n' h1 h2 h3).1; cases this
theorem specNodeGet_ev (S : List UInt8) (hS : S.length ≤ 1048576) : ∃ (n : NodeT) (ok : Bool), okNode n ∧ Ev (fun k => F10 k (ba S)) ((n, ok, ()), ((), ())) ∧ Reads S n ok := by
  cases S with
  | nil =>
    refine ⟨zeroN, true, okNode_mk (by simp) (by simp) (by simp), Ev.step 2 (fun k => F10_eq k _) ?_, (fun h => by cases h), fun _ => .inl ⟨rfl, rfl⟩, fun _ => rfl, fun n' h => absurd rfl h⟩
    simp only [eqE, decide_true, if_true]
    exact Ev.now _
  | cons c S =>
    have hS' : S.length ≤ 1048575 := by simpa using hS
    have e0 : (ba (c :: S))[0]? = some c := by rw [ba_get]; rfl
    have hne : ((ba (c :: S)).toList == (⟨#[]⟩ : ByteArray).toList) = false := by rw [eqE]; simp
    have c1 : (decide ((0 : Int) ≤ 1) && decide ((1 : Int) ≤ ((ba (c :: S)).size : Int))) = true := by
      simp only [Bool.and_eq_true, decide_eq_true_eq]
      rw [ba_size, List.length_cons]
      omega
    have ex : (ba (c :: S)).extract 1 (ba (c :: S)).size = ba S := by rw [ext_all]; rfl
    -- what stands behind the reading
    have last : ∀ (lf : Bool) (K V : List ByteArray) (I : List Int) (ok : Bool), okNode (lf, K, V, I, ()) → Ev (fun k => F10c9 k false [] [] [] lf K V I ok) (((if ok = true ∧ nodeOk (lf, K, V, I, ()) = true then (lf, K, V, I, ()) else zeroN), (ok && nodeOk (lf, K, V, I, ())), ()), ((), ())) := fun lf K V I ok hok => by
      refine Ev.step 1 (fun k => F10c9_eq k _ _ _ _ _ _ _ _ _) ?_
      cases ok with
      | false =>
        simp only [Bool.not_false, if_true, Bool.false_and, Bool.false_eq_true, false_and, if_false]
        exact Ev.now _
      | true =>
        simp only [Bool.not_true, Bool.false_eq_true, if_false, Bool.true_and, true_and]
        refine Ev.bind (F17_ev (lf, K, V, I, ()) hok) ?_
        cases ho : nodeOk (lf, K, V, I, ()) with
        | true =>
          simp only [Bool.not_true, Bool.false_eq_true, if_false, if_true]
          exact Ev.now _
        | false =>
          simp only [Bool.not_false, if_true, Bool.false_eq_true, if_false]
          exact Ev.now _
    have okz : okNode zeroN := okNode_mk (by simp) (by simp) (by simp)
    by_cases hL : c = 76
    · subst hL
      obtain ⟨lf, ok, K, V, I, f1, f2, f3, f4⟩ := leafGet_ev S.length S [] [] (Nat.le_refl _) (by omega) (by simp) (by simp) rfl
      have e76 : (((76 : UInt8).toNat : Int) == 76) = true := rfl
      have e78 : (((76 : UInt8).toNat : Int) == 78) = false := rfl
      refine ⟨if ok = true ∧ nodeOk (lf, K, V, I, ()) = true then (lf, K, V, I, ()) else zeroN, ok && nodeOk (lf, K, V, I, ()), by split; exact f2; exact okz, Ev.step 2 (fun k => F10_eq k _) ?_, fun h => ?_, fun h => ?_, (fun h => by cases h), fun n' _ h1 h2 => ?_⟩
      · simp only [hne, Bool.false_eq_true, if_false, e0, Option.bind_some, e76, if_true, c1, ex]
        refine Ev.bind (Ev.step 2 (fun k => F28_eq k _) f1) ?_
        refine Ev.step 1 (fun k => F10c7_eq k _ _ _ _ _ _ _ _ _ _) ?_
        simp only [e0, Option.bind_some, e78, Bool.false_eq_true, if_false]
        exact last lf K V I ok f2
      · rw [if_neg (fun hh => by rw [hh.1, hh.2] at h; cases h)]
      · rw [Bool.and_eq_true] at h
        obtain ⟨rfl, rfl, K2, V2, h3, h4, h5, h6⟩ := f3 h.1
        rw [List.nil_append] at h3 h4
        subst h3 h4
        rw [if_pos h]
        refine .inr ⟨by simp, h.2, ?_⟩
        rw [npText_leaf h.2, ← h6]
      · obtain ⟨lf', K', V', I', u⟩ := n'
        obtain ⟨⟩ := u
        cases lf' with
        | true =>
          rw [npText_leaf h1] at h2
          have h3 : S = entsL K' V' := by have := congrArg (fun b => b.data.toList) h2; simp only [ba_data, List.cons.injEq, true_and] at this; exact this.symm
          obtain ⟨a1, a2, a3, a4, rfl⟩ := npOk_leaf h1
          obtain ⟨g1, g2, g3, g4, g5⟩ := f4 K' V' h3 a1 (by simp; omega) (fun x hx => by obtain ⟨i, hi⟩ := List.getElem?_of_mem hx; exact a3 i x hi) (fun y hy => by obtain ⟨i, hi⟩ := List.getElem?_of_mem hy; exact a4 i y hi)
          rw [List.nil_append] at g3 g4
          subst g1 g2 g3 g4 g5
          rw [if_pos ⟨rfl, h1⟩, h1]
          exact ⟨rfl, rfl⟩
        | false =>
          exfalso
          cases I' with
          | nil => obtain ⟨a1, _⟩ := npOk_inner h1; simp at a1
          | cons z I' =>
            obtain ⟨q, _, _, h3⟩ := npText_inner h1
            rw [h3] at h2
            have := congrArg (fun b => b.data.toList) h2
            simp only [ba_data, List.cons.injEq] at this
            exact absurd this.1 (by decide)
    · have e76 : ((c.toNat : Int) == 76) = false := beq_eq_false_iff_ne.2 (fun h => hL (u8_eq (show c.toNat = 76 by omega)))
      by_cases hN : c = 78
      · subst hN
        have e78 : (((78 : UInt8).toNat : Int) == 78) = true := rfl
        have c58 : ((58 : UInt8).toNat : Int) = 58 := rfl
        have st : ∀ {q}, Ev (fun k => (F29 k (ba S)).bind fun r4 => F10c9 k false [] [] [] r4.1.1.1 r4.1.1.2.1 r4.1.1.2.2.1 r4.1.1.2.2.2.1 r4.1.2.1) q → Ev (fun k => F10 k (ba (78 :: S))) q := fun hq => by
          refine Ev.step 2 (fun k => F10_eq k _) ?_
          simp only [hne, Bool.false_eq_true, if_false, e0, Option.bind_some, e76]
          refine Ev.step 1 (fun k => F10c7_eq k _ _ _ _ _ _ _ _ _ _) ?_
          simp only [e0, Option.bind_some, e78, if_true, c1, ex]
          exact hq
        rcases part_or 58 S with h58 | ⟨A, B, h58, rfl⟩
        · have e1 := cut0_ev h58 (by omega)
          rw [c58] at e1
          have e2 : Ev (fun k => F29 k (ba S)) (((zeroN), false, ()), ((), ())) := by
            refine Ev.step 2 (fun k => F29_eq k _) (Ev.bind e1 ?_)
            exact Ev.now _
          refine ⟨zeroN, false, okz, st (Ev.bind e2 (last false [] [] [] false okz)), fun _ => rfl, (fun h => by cases h), (fun h => by cases h), fun n' _ h1 h2 => ?_⟩
          exfalso
          obtain ⟨lf', K', V', I', u⟩ := n'
          cases lf' with
          | true =>
            rw [npText_leaf h1] at h2
            have := congrArg (fun b => b.data.toList) h2
            simp only [ba_data, List.cons.injEq] at this
            exact absurd this.1 (by decide)
          | false =>
            cases I' with
            | nil => obtain ⟨a1, _⟩ := npOk_inner h1; simp at a1
            | cons z I' =>
              obtain ⟨q, _, _, h3⟩ := npText_inner h1
              rw [h3] at h2
              have := congrArg (fun b => b.data.toList) h2
              simp only [ba_data, List.cons.injEq, true_and] at this
              exact h58 (by rw [← this]; simp)
        · have hAl : A.length ≤ 1048576 := by simp only [List.length_append, List.length_cons] at hS'; omega
          have hBl : B.length ≤ 1048576 := by simp only [List.length_append, List.length_cons] at hS'; omega
          have e1 := cut1_ev (B := B) h58 (by omega)
          rw [c58] at e1
          obtain ⟨lf, ok, K, V, I, f1, f2, f3, f4⟩ := innerGet_ev B.length B [] [numV A] (Nat.le_refl _) hBl (by simp) rfl
          have e2 : Ev (fun k => F29 k (ba (A ++ 58 :: B))) (((lf, K, V, I, ()), ok, ()), ((), ())) := by
            refine Ev.step 2 (fun k => F29_eq k _) (Ev.bind e1 ?_)
            have q2 : (((2 : Nat) : Int) != (2 : Int)) = false := rfl
            simp only [List.length_cons, List.length_nil, Nat.zero_add, Nat.reduceAdd, q2, Bool.false_eq_true, if_false, List.getElem?_cons_zero, List.getElem?_cons_succ, Option.bind_some]
            exact Ev.bind (l1Num_ev hAl) f1
          refine ⟨if ok = true ∧ nodeOk (lf, K, V, I, ()) = true then (lf, K, V, I, ()) else zeroN, ok && nodeOk (lf, K, V, I, ()), by split; exact f2; exact okz, st (Ev.bind e2 (last lf K V I ok f2)), fun h => ?_, fun h => ?_, (fun h => by cases h), fun n' _ h1 h2 => ?_⟩
          · rw [if_neg (fun hh => by rw [hh.1, hh.2] at h; cases h)]
          · rw [Bool.and_eq_true] at h
            obtain ⟨rfl, rfl, K2, I2, h3, h4, h5, h6⟩ := f3 h.1
            rw [List.nil_append] at h3
            rw [List.cons_append, List.nil_append] at h4
            subst h3 h4
            rw [if_pos h]
            refine .inr ⟨by simp, h.2, ?_⟩
            obtain ⟨q, hq, _, h7⟩ := npText_inner h.2
            rw [h7, ← h6]
            rcases numV_or A with hA | ⟨na, hA, rfl⟩
            · omega
            · have : na = q := by omega
              rw [this]
          · obtain ⟨lf', K', V', I', u⟩ := n'
            obtain ⟨⟩ := u
            cases lf' with
            | true =>
              exfalso
              rw [npText_leaf h1] at h2
              have := congrArg (fun b => b.data.toList) h2
              simp only [ba_data, List.cons.injEq] at this
              exact absurd this.1 (by decide)
            | false =>
              cases I' with
              | nil => obtain ⟨a1, _⟩ := npOk_inner h1; simp at a1
              | cons z I' =>
                obtain ⟨q, rfl, hq18, h3⟩ := npText_inner h1
                rw [h3] at h2
                have h4 : dd q ++ 58 :: entsN K' I' = A ++ 58 :: B := by have := congrArg (fun b => b.data.toList) h2; simp only [ba_data, List.cons.injEq, true_and] at this; exact this
                obtain ⟨rfl, rfl⟩ := part_one (dig_no58 (dg_dig q)) h58 h4
                obtain ⟨a1, a2, a3, a4, a5, rfl⟩ := npOk_inner h1
                have nq := numV_dd (n := q) (by omega)
                rw [nq] at f4
                obtain ⟨g1, g2, g3, g4, g5⟩ := f4 K' I' rfl (by simpa using a1) (by simp; omega) (fun x hx => by obtain ⟨i, hi⟩ := List.getElem?_of_mem hx; exact a4 i x hi) (fun y hy => by obtain ⟨i, hi⟩ := List.getElem?_of_mem hy; have := a5 (i + 1) y (by simpa using hi); omega)
                rw [List.nil_append] at g3
                rw [List.cons_append, List.nil_append] at g4
                subst g1 g2 g3 g4 g5
                rw [if_pos ⟨rfl, h1⟩, h1]
                exact ⟨rfl, rfl⟩
      · have e78 : ((c.toNat : Int) == 78) = false := beq_eq_false_iff_ne.2 (fun h => hN (u8_eq (show c.toNat = 78 by omega)))
        refine ⟨zeroN, false, okz, Ev.step 2 (fun k => F10_eq k _) ?_, fun _ => rfl, (fun h => by cases h), (fun h => by cases h), fun n' _ h1 h2 => ?_⟩
        · simp only [hne, Bool.false_eq_true, if_false, e0, Option.bind_some, e76]
          refine Ev.step 1 (fun k => F10c7_eq k _ _ _ _ _ _ _ _ _ _) ?_
          simp only [e0, Option.bind_some, e78, Bool.false_eq_true, if_false]
          exact last false [] [] [] false okz
        · exfalso
          obtain ⟨lf', K', V', I', u⟩ := n'
          cases lf' with
          | true =>
            rw [npText_leaf h1] at h2
            have := congrArg (fun b => b.data.toList) h2
            simp only [ba_data, List.cons.injEq] at this
            exact hL this.1.symm
          | false =>
            cases I' with
            | nil => obtain ⟨a1, _⟩ := npOk_inner h1; simp at a1
            | cons z I' =>
              obtain ⟨q, _, _, h3⟩ := npText_inner h1
              rw [h3] at h2
              have := congrArg (fun b => b.data.toList) h2
              simp only [ba_data, List.cons.injEq] at this
              exact hN this.1.symm
end Go.Proofs.YtcolgghllacloaaDoor.R
end

section
/-! Rf: a node's text, read by the program. -/
set_option autoImplicit false
set_option linter.unusedSimpArgs false
set_option linter.unusedVariables false
namespace Go.Proofs.YtcolgghllacloaaDoor.R
open Go.Rf
theorem cloneS_ev (l : List ByteArray) (h : l.length ≤ 1000000) : Ev (fun k => F34 k l) ((l, ()), ((), ())) := by
  have h2 : Ev (fun k => F56 k l) ((l, ()), ((), ())) := by
    refine Ev.step 2 (fun k => F56_eq k l) ?_
    have hc : decide (([] : List ByteArray).length + l.length ≤ 8796093022208) = true := decide_eq_true (by simp; omega)
    simp only [hc, if_true, List.nil_append]
    cases l with
    | nil =>
      rw [bothK_same]
      exact Ev.now _
    | cons x l =>
      have : emptyL (x :: l) = false := rfl
      rw [this, bothK_false]
      exact Ev.now _
  have h3 : Ev (fun k => F55 k l) ((l, ()), ((), ())) := by
    refine Ev.step 2 (fun k => F55_eq k l) ?_
    simp only [beq_self_eq_true, Bool.and_self, if_true]
    exact Ev.now _
  exact Ev.step 2 (fun k => F34_eq k l) (Ev.bind h2 (Ev.bind h3 (Ev.now _)))
theorem eqT (x s : ByteArray) : (x.toList == s.toList) = decide (x = s) := by
  rw [Lib.toList_data, Lib.toList_data]
  by_cases h : x = s
  · subst h
    simp
  · rw [decide_eq_false h, beq_eq_false_iff_ne]
    exact fun e => h (ba_ext e)
/-- the program's loop -/
theorem implLoop_ev (S : List UInt8) (hS : S ≠ []) (lf : Bool) : ∀ (m : Nat) (M : List UInt8) (K V : List ByteArray) (I : List Int), M.length ≤ m → K.length + M.length ≤ 1048575 → V.length ≤ K.length → I.length ≤ K.length + 1 → ∃ (n : NodeT) (ok : Bool),
    Ev (fun k => F11c11 k (ba S) false [] [] [] lf K V I (ba M)) ((n, ok, ()), ((), ())) ∧ okNode n ∧ (ok = false → n = zeroN) ∧ (ok = true → nodeOk n = true ∧ npText n = ba S) ∧
    (lf = true → I = [] → ∀ K2 V2, M = entsL K2 V2 → V2.length = K2.length → (∀ x ∈ K2, x.size ≤ 96) → (∀ y ∈ V2, y.size ≤ 140) → npText (true, K ++ K2, V ++ V2, [], ()) = ba S → ok = true ∧ n = (true, K ++ K2, V ++ V2, [], ())) ∧
    (lf = false → V = [] → ∀ K2 I2, M = entsN K2 I2 → I2.length = K2.length → (∀ x ∈ K2, x.size ≤ 96) → (∀ y ∈ I2, 0 ≤ y ∧ y ≤ 18) → npText (false, K ++ K2, [], I ++ I2, ()) = ba S → ok = true ∧ n = (false, K ++ K2, [], I ++ I2, ())) := by
  have okz : okNode zeroN := okNode_mk (by simp) (by simp) (by simp)
  intro m
  induction m with
  | zero =>
    intro M K V I hm hl hV hI
    obtain rfl : M = [] := List.eq_nil_of_length_eq_zero (by omega)
    have hno : (!((ba []).toList == (⟨#[]⟩ : ByteArray).toList)) = false := by rw [eqE]; rfl
    have hok : okNode (lf, K, V, I, ()) := okNode_mk (by omega) (by omega) (by omega)
    have e1 : Ev (fun k => F8 k lf K V I) ((npText (lf, K, V, I, ()), ()), (((), (), (), (), ()), ())) := implNodePut_ev (lf, K, V, I, ()) hok
    by_cases ht : npText (lf, K, V, I, ()) = ba S
    · have hno2 : npText (lf, K, V, I, ()) ≠ ⟨#[]⟩ := by rw [ht]; intro h; exact hS (congrArg (fun b => b.data.toList) h)
      have ho := npText_none hno2
      have lens : K.length ≤ 4 ∧ V.length ≤ 4 ∧ I.length ≤ 5 := by
        cases lf with
        | true => obtain ⟨a1, a2, _, _, rfl⟩ := npOk_leaf ho; simp; omega
        | false => obtain ⟨a1, _, a2, _, _, rfl⟩ := npOk_inner ho; simp; omega
      refine ⟨(lf, K, V, I, ()), true, Ev.step 1 (fun k => F11c11_eq k _ _ _ _ _ _ _ _ _ _) ?_, hok, (fun h => by cases h), fun _ => ⟨ho, ht⟩, fun h1 h2 K2 V2 h3 h4 _ _ _ => ?_, fun h1 h2 K2 I2 h3 h4 _ h6 _ => ?_⟩
      · simp only [hno, Bool.false_eq_true, if_false]
        refine Ev.bind e1 ?_
        simp only [eqT, ht, decide_true, Bool.not_true, Bool.false_eq_true, if_false]
        refine Ev.bind (cloneS_ev K (by omega)) (Ev.bind (cloneS_ev V (by omega)) (Ev.bind (clone_int_ev I (by omega)) ?_))
        exact Ev.now _
      · match K2, V2, h3, h4 with
        | [], [], _, _ => rw [h1, h2]; simp
        | x :: K2, y :: V2, h3, _ =>
          rw [entsL, entL_top] at h3
          exact absurd h3.symm (by simp)
        | [], _ :: _, _, h => simp at h
        | _ :: _, [], _, h => simp at h
      · match K2, I2, h3, h4, h6 with
        | [], [], _, _, _ => rw [h1, h2]; simp
        | x :: K2, y :: V2, h3, _, h6 =>
          have h6 := h6 y (by simp)
          obtain ⟨y, rfl⟩ : ∃ q : Nat, y = (q : Int) := ⟨y.toNat, by omega⟩
          rw [entsN, entN_top] at h3
          exact absurd h3.symm (by simp)
        | [], _ :: _, _, h, _ => simp at h
        | _ :: _, [], _, h, _ => simp at h
    · refine ⟨zeroN, false, Ev.step 1 (fun k => F11c11_eq k _ _ _ _ _ _ _ _ _ _) ?_, okz, (fun _ => rfl), (fun h => by cases h), fun h1 h2 K2 V2 h3 h4 _ _ h7 => ?_, fun h1 h2 K2 I2 h3 h4 _ h6 h7 => ?_⟩
      · simp only [hno, Bool.false_eq_true, if_false]
        refine Ev.bind e1 ?_
        simp only [eqT, decide_eq_false ht, Bool.not_false, if_true]
        exact Ev.now _
      · match K2, V2, h3, h4, h7 with
        | [], [], _, _, h7 => rw [List.append_nil, List.append_nil] at h7; rw [h1, h2] at ht; exact absurd h7 ht
        | x :: K2, y :: V2, h3, _, _ =>
          rw [entsL, entL_top] at h3
          exact absurd h3.symm (by simp)
        | [], _ :: _, _, h, _ => simp at h
        | _ :: _, [], _, h, _ => simp at h
      · match K2, I2, h3, h4, h6, h7 with
        | [], [], _, _, _, h7 => rw [List.append_nil, List.append_nil] at h7; rw [h1, h2] at ht; exact absurd h7 ht
        | x :: K2, y :: V2, h3, _, h6, _ =>
          have h6 := h6 y (by simp)
          obtain ⟨y, rfl⟩ : ∃ q : Nat, y = (q : Int) := ⟨y.toNat, by omega⟩
          rw [entsN, entN_top] at h3
          exact absurd h3.symm (by simp)
        | [], _ :: _, _, h, _, _ => simp at h
        | _ :: _, [], _, h, _, _ => simp at h
  | succ m ih =>
    intro M K V I hm hl hV hI
    by_cases h0 : M.length = 0
    · obtain rfl : M = [] := List.eq_nil_of_length_eq_zero (by omega)
      exact ih [] K V I (by simp) hl hV hI
    have hne : M ≠ [] := fun h => h0 (by rw [h]; rfl)
    have hno : (!((ba M).toList == (⟨#[]⟩ : ByteArray).toList)) = true := by rw [eqE, decide_eq_false hne]; rfl
    obtain ⟨key, num, R, okE, e1, e2, e3⟩ := entry_ev M (by omega)
    have fail : Ev (fun k => F11c11 k (ba S) false [] [] [] lf K V I (ba M)) ((zeroN, false, ()), ((), ())) → (∀ x y K2 V2, lf = true → M = entsL (x :: K2) (y :: V2) → x.size ≤ 96 → y.size ≤ 140 → False) → (∀ x (y : Nat) K2 I2, lf = false → M = entsN (x :: K2) ((y : Int) :: I2) → x.size ≤ 96 → y ≤ 18 → False) → ∃ (n : NodeT) (ok : Bool),
        Ev (fun k => F11c11 k (ba S) false [] [] [] lf K V I (ba M)) ((n, ok, ()), ((), ())) ∧ okNode n ∧ (ok = false → n = zeroN) ∧ (ok = true → nodeOk n = true ∧ npText n = ba S) ∧
        (lf = true → I = [] → ∀ K2 V2, M = entsL K2 V2 → V2.length = K2.length → (∀ x ∈ K2, x.size ≤ 96) → (∀ y ∈ V2, y.size ≤ 140) → npText (true, K ++ K2, V ++ V2, [], ()) = ba S → ok = true ∧ n = (true, K ++ K2, V ++ V2, [], ())) ∧
        (lf = false → V = [] → ∀ K2 I2, M = entsN K2 I2 → I2.length = K2.length → (∀ x ∈ K2, x.size ≤ 96) → (∀ y ∈ I2, 0 ≤ y ∧ y ≤ 18) → npText (false, K ++ K2, [], I ++ I2, ()) = ba S → ok = true ∧ n = (false, K ++ K2, [], I ++ I2, ())) := fun he h1 h2 => by
      refine ⟨zeroN, false, he, okz, (fun _ => rfl), (fun h => by cases h), fun q1 q2 K2 V2 q3 q4 q5 q6 _ => ?_, fun q1 q2 K2 I2 q3 q4 q5 q6 _ => ?_⟩
      · match K2, V2, q3, q4, q5, q6 with
        | [], [], q3, _, _, _ => exact absurd q3 hne
        | x :: K2, y :: V2, q3, _, q5, q6 => exact (h1 x y K2 V2 q1 q3 (q5 x (by simp)) (q6 y (by simp))).elim
        | [], _ :: _, _, h, _, _ => simp at h
        | _ :: _, [], _, h, _, _ => simp at h
      · match K2, I2, q3, q4, q5, q6 with
        | [], [], q3, _, _, _ => exact absurd q3 hne
        | x :: K2, y :: V2, q3, _, q5, q6 =>
          have h6 := q6 y (by simp)
          obtain ⟨y, rfl⟩ : ∃ q : Nat, y = (q : Int) := ⟨y.toNat, by omega⟩
          exact (h2 x y K2 V2 q1 q3 (q5 x (by simp)) (by omega)).elim
        | [], _ :: _, _, h, _, _ => simp at h
        | _ :: _, [], _, h, _, _ => simp at h
    have topL : ∀ {x y : ByteArray} {K2 V2 : List ByteArray}, M = entsL (x :: K2) (y :: V2) → x.size ≤ 96 → y.size ≤ 140 → okE = true ∧ key = x ∧ num = (y.size : Int) ∧ R = bl y ++ entsL K2 V2 := fun {x y K2 V2} h h1 h2 => by
      rw [entsL, entL_top] at h
      obtain ⟨g1, g2, g3, g4⟩ := e3 x.size y.size _ (by omega) (by omega) (by rw [List.length_append, bl_len]; omega) h
      rw [← bl_len x, List.take_left, ba_bl] at g2
      rw [← bl_len x, List.drop_left] at g4
      exact ⟨g1, g2, g3, g4⟩
    have topN : ∀ {x : ByteArray} {y : Nat} {K2 : List ByteArray} {I2 : List Int}, M = entsN (x :: K2) ((y : Int) :: I2) → x.size ≤ 96 → y ≤ 18 → okE = true ∧ key = x ∧ num = (y : Int) ∧ R = entsN K2 I2 := fun {x y K2 I2} h h1 h2 => by
      rw [entsN, entN_top] at h
      obtain ⟨g1, g2, g3, g4⟩ := e3 x.size y _ (by omega) (by omega) (by rw [List.length_append, bl_len]; omega) h
      rw [← bl_len x, List.take_left, ba_bl] at g2
      rw [← bl_len x, List.drop_left] at g4
      exact ⟨g1, g2, g3, g4⟩
    cases okE with
    | false =>
      refine fail (Ev.step 1 (fun k => F11c11_eq k _ _ _ _ _ _ _ _ _ _) ?_) (fun x y K2 V2 _ h1 h2 h3 => by have := (topL h1 h2 h3).1; cases this) (fun x y K2 I2 _ h1 h2 h3 => by have := (topN h1 h2 h3).1; cases this)
      simp only [hno, if_true]
      refine Ev.bind e1 ?_
      simp only [Bool.not_false, if_true]
      exact Ev.now _
    | true =>
      have hRlt := e2 rfl
      have r1 : ∀ s : ByteArray, decide (K.length + [s].length ≤ 8796093022208) = true := fun s => decide_eq_true (by simp; omega)
      have r2 : ∀ s : ByteArray, decide (V.length + [s].length ≤ 8796093022208) = true := fun s => decide_eq_true (by simp; omega)
      have r3 : ∀ s : Int, decide (I.length + [s].length ≤ 17592186044416) = true := fun s => decide_eq_true (by simp; omega)
      cases lf with
      | true =>
        cases hw : inNode num 0 ((ba R).size : Int) with
        | false =>
          refine fail (Ev.step 1 (fun k => F11c11_eq k _ _ _ _ _ _ _ _ _ _) ?_) (fun x y K2 V2 _ h1 h2 h3 => ?_) (fun _ _ _ _ h => by cases h)
          · simp only [hno, if_true]
            refine Ev.bind e1 ?_
            simp only [Bool.not_true, Bool.false_eq_true, if_false, if_true]
            refine Ev.bind (F33_ev _ _ _) ?_
            simp only [hw, Bool.not_false, if_true]
            exact Ev.now _
          · obtain ⟨_, _, g3, rfl⟩ := topL h1 h2 h3
            unfold inNode at hw
            simp only [Bool.and_eq_false_iff, decide_eq_false_iff_not] at hw
            rw [ba_size, List.length_append, bl_len] at hw
            omega
        | true =>
          have hw' : 0 ≤ num ∧ num ≤ (R.length : Int) := by
            unfold inNode at hw
            simp only [Bool.and_eq_true, decide_eq_true_eq] at hw
            exact hw
          have hc : (decide (0 ≤ num) && decide (num ≤ ((ba R).size : Int))) = true := by
            simp only [Bool.and_eq_true, decide_eq_true_eq]
            exact hw'
          obtain ⟨n, ok, f1, f2, f3, f4, f5, f6⟩ := ih (R.drop num.toNat) (K ++ [key]) (V ++ [ba (R.take num.toNat)]) I (by rw [List.length_drop]; omega) (by rw [List.length_drop, List.length_append]; simp only [List.length_cons, List.length_nil]; omega) (by simp; omega) (by simp; omega)
          refine ⟨n, ok, Ev.step 1 (fun k => F11c11_eq k _ _ _ _ _ _ _ _ _ _) ?_, f2, f3, f4, fun _ q2 K2 V2 q3 q4 q5 q6 q7 => ?_, fun h => by cases h⟩
          · simp only [hno, if_true]
            refine Ev.bind e1 ?_
            simp only [Bool.not_true, Bool.false_eq_true, if_false, if_true]
            refine Ev.bind (F33_ev _ _ _) ?_
            simp only [hw, hc, r1, r2, Bool.not_true, Bool.false_eq_true, if_false, if_true]
            simp only [ba_extract, ba_size, List.take_length, List.drop_zero]
            exact f1
          · match K2, V2, q3, q4, q5, q6, q7 with
            | [], [], q3, _, _, _, _ => exact absurd q3 hne
            | x :: K2, y :: V2, q3, q4, q5, q6, q7 =>
              obtain ⟨_, rfl, rfl, rfl⟩ := topL q3 (q5 x (by simp)) (q6 y (by simp))
              rw [Int.toNat_natCast, ← bl_len y, List.take_left, List.drop_left, ba_bl] at f5
              have := f5 rfl q2 K2 V2 rfl (by simpa using q4) (fun z hz => q5 z (by simp [hz])) (fun z hz => q6 z (by simp [hz])) (by simpa using q7)
              simpa using this
            | [], _ :: _, _, h, _, _, _ => simp at h
            | _ :: _, [], _, h, _, _, _ => simp at h
      | false =>
        obtain ⟨n, ok, f1, f2, f3, f4, f5, f6⟩ := ih R (K ++ [key]) V (I ++ [num]) (by omega) (by rw [List.length_append]; simp only [List.length_cons, List.length_nil]; omega) (by simp; omega) (by simp; omega)
        refine ⟨n, ok, Ev.step 1 (fun k => F11c11_eq k _ _ _ _ _ _ _ _ _ _) ?_, f2, f3, f4, (fun h => by cases h), fun _ q2 K2 I2 q3 q4 q5 q6 q7 => ?_⟩
        · simp only [hno, if_true]
          refine Ev.bind e1 ?_
          simp only [r1, r3, Bool.not_true, Bool.false_eq_true, if_false, if_true]
          exact f1
        · match K2, I2, q3, q4, q5, q6, q7 with
          | [], [], q3, _, _, _, _ => exact absurd q3 hne
          | x :: K2, y :: I2, q3, q4, q5, q6, q7 =>
            have h6 := q6 y (by simp)
            obtain ⟨y, rfl⟩ : ∃ q : Nat, y = (q : Int) := ⟨y.toNat, by omega⟩
            obtain ⟨_, rfl, rfl, rfl⟩ := topN q3 (q5 x (by simp)) (by omega)
            have := f6 rfl q2 K2 I2 rfl (by simpa using q4) (fun z hz => q5 z (by simp [hz])) (fun z hz => q6 z (by simp [hz])) (by simpa using q7)
            simpa using this
          | [], _ :: _, _, h, _, _, _ => simp at h
          | _ :: _, [], _, h, _, _, _ => simp at h
theorem implNodeGet_ev (S : List UInt8) (hS : S.length ≤ 1048576) : ∃ (n : NodeT) (ok : Bool), okNode n ∧ Ev (fun k => F11 k (ba S)) ((n, ok, ()), ((), ())) ∧ Reads S n ok := by
  have okz : okNode zeroN := okNode_mk (by simp) (by simp) (by simp)
  cases S with
  | nil =>
    refine ⟨zeroN, true, okz, Ev.step 2 (fun k => F11_eq k _) ?_, (fun h => by cases h), fun _ => .inl ⟨rfl, rfl⟩, fun _ => rfl, fun n' h => absurd rfl h⟩
    simp only [eqE, decide_true, if_true]
    exact Ev.now _
  | cons c S =>
    have hS' : S.length ≤ 1048575 := by simpa using hS
    have e0 : (ba (c :: S))[0]? = some c := by rw [ba_get]; rfl
    have hne : ((ba (c :: S)).toList == (⟨#[]⟩ : ByteArray).toList) = false := by rw [eqE]; simp
    have c1 : (decide ((0 : Int) ≤ 1) && decide ((1 : Int) ≤ ((ba (c :: S)).size : Int))) = true := by
      simp only [Bool.and_eq_true, decide_eq_true_eq]
      rw [ba_size, List.length_cons]
      omega
    have ex : (ba (c :: S)).extract 1 (ba (c :: S)).size = ba S := by rw [ext_all]; rfl
    by_cases hL : c = 76
    · subst hL
      have e76 : (((76 : UInt8).toNat : Int) == 76) = true := rfl
      obtain ⟨n, ok, f1, f2, f3, f4, f5, f6⟩ := implLoop_ev (76 :: S) (by simp) true S.length S [] [] [] (Nat.le_refl _) (by simp; omega) (by simp) (by simp)
      refine ⟨n, ok, f2, Ev.step 2 (fun k => F11_eq k _) ?_, f3, fun h => .inr ⟨by simp, f4 h⟩, (fun h => by cases h), fun n' _ h1 h2 => ?_⟩
      · simp only [hne, Bool.false_eq_true, if_false, e0, Option.bind_some, c1, if_true, e76, Bool.not_true, ex]
        exact f1
      · obtain ⟨lf', K', V', I', u⟩ := n'
        obtain ⟨⟩ := u
        cases lf' with
        | true =>
          have h2' := h2
          rw [npText_leaf h1] at h2
          have h3 : S = entsL K' V' := by have := congrArg (fun b => b.data.toList) h2; simp only [ba_data, List.cons.injEq, true_and] at this; exact this.symm
          obtain ⟨a1, a2, a3, a4, rfl⟩ := npOk_leaf h1
          exact f5 rfl rfl K' V' h3 a1 (fun x hx => by obtain ⟨i, hi⟩ := List.getElem?_of_mem hx; exact (a3 i x hi).2) (fun y hy => by obtain ⟨i, hi⟩ := List.getElem?_of_mem hy; exact a4 i y hi) h2'
        | false =>
          exfalso
          cases I' with
          | nil => obtain ⟨a1, _⟩ := npOk_inner h1; simp at a1
          | cons z I' =>
            obtain ⟨q, _, _, h3⟩ := npText_inner h1
            rw [h3] at h2
            have := congrArg (fun b => b.data.toList) h2
            simp only [ba_data, List.cons.injEq] at this
            exact absurd this.1 (by decide)
    · have e76 : ((c.toNat : Int) == 76) = false := beq_eq_false_iff_ne.2 (fun h => hL (u8_eq (show c.toNat = 76 by omega)))
      obtain ⟨A, B, t, hA, hB, ht, hf, g1⟩ := cutA_ev S 58 (by omega)
      obtain ⟨v, b, hv, g2⟩ := atoiB_ev A (by omega)
      have r1 : decide ([v].length ≤ 17592186044416) = true := decide_eq_true (by simp)
      have back : ∀ n', nodeOk n' = true → npText n' = ba (c :: S) → ∃ (K' : List ByteArray) (q : Nat) (I' : List Int), n' = (false, K', [], (q : Int) :: I', ()) ∧ A = dd q ∧ B = entsN K' I' ∧ v = q ∧ b = true ∧ I'.length = K'.length ∧ (∀ x ∈ K', x.size ≤ 96) ∧ (∀ y ∈ I', 0 ≤ y ∧ y ≤ 18) := fun n' h1 h2 => by
        obtain ⟨lf', K', V', I', u⟩ := n'
        obtain ⟨⟩ := u
        cases lf' with
        | true =>
          exfalso
          rw [npText_leaf h1] at h2
          have := congrArg (fun b => b.data.toList) h2
          simp only [ba_data, List.cons.injEq] at this
          exact hL this.1.symm
        | false =>
          cases I' with
          | nil => obtain ⟨a1, _⟩ := npOk_inner h1; simp at a1
          | cons z I' =>
            obtain ⟨q, rfl, hq, h3⟩ := npText_inner h1
            rw [h3] at h2
            have h4 : dd q ++ 58 :: entsN K' I' = S := by have := congrArg (fun b => b.data.toList) h2; simp only [ba_data, List.cons.injEq] at this; exact this.2
            obtain ⟨a1, a2, a3, a4, a5, rfl⟩ := npOk_inner h1
            obtain ⟨rfl, rfl, _⟩ := ht _ _ (dig_no58 (dg_dig q)) h4.symm
            obtain ⟨rfl, rfl⟩ := hv q (by omega) rfl
            exact ⟨K', q, I', rfl, rfl, rfl, rfl, rfl, by simpa using a1, (fun x hx => by obtain ⟨i, hi⟩ := List.getElem?_of_mem hx; exact (a4 i x hi).2), fun y hy => by obtain ⟨i, hi⟩ := List.getElem?_of_mem hy; exact a5 (i + 1) y (by simpa using hi)⟩
      cases b with
      | false =>
        refine ⟨zeroN, false, okz, Ev.step 2 (fun k => F11_eq k _) ?_, (fun _ => rfl), (fun h => by cases h), (fun h => by cases h), fun n' _ h1 h2 => ?_⟩
        · simp only [hne, Bool.false_eq_true, if_false, e0, Option.bind_some, c1, if_true, e76, Bool.not_false, ex]
          refine Ev.bind g1 (Ev.bind g2 ?_)
          exact Ev.now _
        · obtain ⟨_, _, _, _, _, _, _, h, _⟩ := back n' h1 h2
          cases h
      | true =>
        obtain ⟨n, ok, f1, f2, f3, f4, f5, f6⟩ := implLoop_ev (c :: S) (by simp) false B.length B [] [] [v] (Nat.le_refl _) (by simp; omega) (by simp) (by simp)
        refine ⟨n, ok, f2, Ev.step 2 (fun k => F11_eq k _) ?_, f3, fun h => .inr ⟨by simp, f4 h⟩, (fun h => by cases h), fun n' _ h1 h2 => ?_⟩
        · simp only [hne, Bool.false_eq_true, if_false, e0, Option.bind_some, c1, if_true, e76, Bool.not_false, ex]
          refine Ev.bind g1 (Ev.bind g2 ?_)
          simp only [Bool.not_true, Bool.false_eq_true, if_false, r1, if_true]
          exact f1
        · obtain ⟨K', q, I', rfl, p2, p3, p4, _, p6, p7, p8⟩ := back n' h1 h2
          have := f6 rfl rfl K' I' p3 p6 p7 p8 (by rw [p4]; exact h2)
          rw [p4] at this
          exact this
end Go.Proofs.YtcolgghllacloaaDoor.R
end

section
/-! Rf: the law FnExactNodeGet, with no machine in sight. -/
set_option autoImplicit false
set_option linter.unusedSimpArgs false
set_option linter.unusedVariables false
namespace Go.Proofs.YtcolgghllacloaaDoor.R
open Go.Rf
theorem markText_ev (n : Nat) (h : n ≤ 1000000000) : ∃ t : ByteArray, Ev (fun k => F59 k (n : Int)) ((t, ()), ((), ())) := by
  have key : ∀ (d : Nat) (n : Nat) (x : ByteArray), n < 10 ^ d → d ≤ 18 → x.size + d ≤ 100 → ∃ t : ByteArray, Ev (fun k => F59c4 k (n : Int) x) ((t, ()), ((), ())) := by
    intro d
    induction d with
    | zero =>
      intro n x hn _ hx
      obtain rfl : n = 0 := by simpa using hn
      refine ⟨(⟨#[109]⟩ : ByteArray) ++ x, Ev.step 1 (fun k => F59c4_eq k _ _) ?_⟩
      have e : decide (((0 : Nat) : Int) > 0) = false := rfl
      have e1 : (⟨#[109]⟩ : ByteArray).size = 1 := rfl
      simp only [e, Bool.false_eq_true, if_false]
      refine Ev.pos (fun _ => ble9 (by rw [e1]; omega)) (Ev.now _)
    | succ d ih =>
      intro n x hn hd hx
      by_cases h0 : n = 0
      · subst h0
        exact ih 0 x (Nat.pos_of_ne_zero (by simp)) (by omega) (by omega)
      · have c : decide ((n : Int) > 0) = true := decide_eq_true (by omega)
        have w : IntKind.i64.wrap ((n : Int).tdiv 10) = ((n / 10 : Nat) : Int) := by
          rw [Int.tdiv_eq_ediv_of_nonneg (by omega)]
          have : n < 10 ^ 18 := Nat.lt_of_lt_of_le hn (Nat.pow_le_pow_right (by omega) (by omega))
          rw [wrap64 (by omega) (by omega)]
          omega
        have sz : ∀ l : List Int, (bytesOf l).size = l.length := fun l => by unfold bytesOf; simp [ByteArray.size]
        obtain ⟨t, ht⟩ := ih (n / 10) (bytesOf [IntKind.u8.wrap (IntKind.i64.wrap ((48 : Int) + ((n : Int).tmod (10 : Int))))] ++ x) (by rw [Nat.pow_succ] at hn; omega) (by omega) (by rw [ByteArray.size_append, sz]; simp only [List.length_cons, List.length_nil]; omega)
        refine ⟨t, Ev.step 1 (fun k => F59c4_eq k _ _) ?_⟩
        simp only [c, if_true, w]
        refine Ev.pos (fun _ => ble9 (by rw [sz]; simp only [List.length_cons, List.length_nil]; omega)) ht
  by_cases h0 : n = 0
  · subst h0
    refine ⟨⟨#[109, 48]⟩, Ev.step 2 (fun k => F59_eq k _) ?_⟩
    have e : decide (((0 : Nat) : Int) ≤ 0) = true := rfl
    simp only [e, if_true]
    exact Ev.now _
  · obtain ⟨t, ht⟩ := key 10 n ⟨#[]⟩ (by omega) (by omega) (by show 0 + 10 ≤ 100; omega)
    refine ⟨t, Ev.step 2 (fun k => F59_eq k _) ?_⟩
    have c : decide ((n : Int) ≤ 0) = false := decide_eq_false (by omega)
    simp only [c, Bool.false_eq_true, if_false]
    exact ht
noncomputable def mtx (n : Nat) : ByteArray := if h : n ≤ 1000000000 then Classical.choose (markText_ev n h) else ByteArray.empty
theorem mtx_ev {n : Nat} (h : n ≤ 1000000000) : Ev (fun k => F59 k (n : Int)) ((mtx n, ()), ((), ())) := by
  unfold mtx
  rw [dif_pos h]
  exact Classical.choose_spec (markText_ev n h)
/-- a row with marks -/
noncomputable def mrow (b n : Nat) : List ByteArray := (List.range n).map fun i => mtx (b + i)
theorem mrow_len (b n : Nat) : (mrow b n).length = n := by simp [mrow]
theorem mrow_at {b n i : Nat} (h : i < n) : (mrow b n)[i]? = some (mtx (b + i)) := by
  unfold mrow
  rw [List.getElem?_map, List.getElem?_range h]
  rfl
theorem markS_ev (l : List ByteArray) (b : Nat) (h : l.length ≤ 1048576) (hb : b ≤ 100000000) : Ev (fun k => F36 k l (b : Int)) ((((b + l.length : Nat) : Int), ()), (mrow b l.length, (), ())) := by
  have key : ∀ (m i : Nat) (x : List ByteArray), i + m = l.length → x.length = l.length → (∀ j, j < i → x[j]? = some (mtx (b + j))) → Ev (fun k => F36c2 k x ((b + i : Nat) : Int) (i : Int)) ((((b + l.length : Nat) : Int), ()), (mrow b l.length, (), ())) := by
    intro m
    induction m with
    | zero =>
      intro i x hi hx hj
      obtain rfl : i = l.length := by omega
      have e : x = mrow b l.length := by
        refine List.ext_getElem? fun j => ?_
        by_cases hjl : j < l.length
        · rw [hj j hjl, mrow_at hjl]
        · rw [List.getElem?_eq_none (by omega), List.getElem?_eq_none (by rw [mrow_len]; omega)]
      refine Ev.step 1 (fun k => F36c2_eq k _ _ _) ?_
      simp only [lt_false (Nat.le_of_eq hx), Bool.false_eq_true, if_false]
      rw [e]
      exact Ev.now _
    | succ m ih =>
      intro i x hi hx hj
      have hil : i < x.length := by omega
      obtain ⟨y, hy⟩ : ∃ y, x[i]? = some y := ⟨_, List.getElem?_eq_getElem hil⟩
      refine Ev.step 1 (fun k => F36c2_eq k _ _ _) ?_
      simp only [lt_true hil, if_true]
      refine Ev.bind (mtx_ev (by omega)) ?_
      simp only [ge0, Bool.and_self, if_true, Int.toNat_natCast, hy, Option.bind_some, wrap_succ (show i < 9223372036854775807 by omega), wrap_succ (show b + i < 9223372036854775807 by omega)]
      have := ih (i + 1) (x.set i (mtx (b + i))) (by omega) (by simpa using hx) (fun j hj' => by
        by_cases e : j = i
        · subst e
          rw [List.getElem?_set_self hil]
        · rw [List.getElem?_set_ne (fun h => e h.symm)]
          exact hj j (by omega))
      rw [show b + (i + 1) = b + i + 1 by omega] at this
      exact this
  exact Ev.step 2 (fun k => F36_eq k _ _) (key l.length 0 l (by omega) rfl (fun j hj => by omega))
theorem heldS_ev (b n : Nat) (h : n ≤ 1048576) (hb : b ≤ 100000000) : Ev (fun k => F38 k (mrow b n) (b : Int)) ((((b + n : Nat) : Int), ()), ((), (), ())) := by
  have key : ∀ (m i : Nat), i + m = n → Ev (fun k => F38c2 k (mrow b n) ((b + i : Nat) : Int) (i : Int)) ((((b + n : Nat) : Int), ()), ((), (), ())) := by
    intro m
    induction m with
    | zero =>
      intro i hi
      obtain rfl : i = n := by omega
      refine Ev.step 1 (fun k => F38c2_eq k _ _ _) ?_
      simp only [lt_false (Nat.le_of_eq (mrow_len b i)), Bool.false_eq_true, if_false]
      exact Ev.now _
    | succ m ih =>
      intro i hi
      refine Ev.step 1 (fun k => F38c2_eq k _ _ _) ?_
      simp only [lt_true (show i < (mrow b n).length by rw [mrow_len]; omega), ge0, if_true, Int.toNat_natCast, mrow_at (show i < n by omega), Option.bind_some]
      refine Ev.bind (mtx_ev (by omega)) ?_
      simp only [beq_self_eq_true, Bool.not_true, Bool.false_eq_true, if_false, wrap_succ (show i < 9223372036854775807 by omega), wrap_succ (show b + i < 9223372036854775807 by omega)]
      exact ih (i + 1) (by omega)
  exact Ev.step 2 (fun k => F38_eq k _ _) (key n 0 (by omega))
theorem markI_ev (l : List Int) (b : Int) (h : l.length ≤ 1048576) (h0 : 0 ≤ b) (hb : b ≤ 1000000000) : Ev (fun k => F37 k l b) ((b + l.length, ()), (marks b l, (), ())) := by
  have key : ∀ (m i : Nat) (x : List Int), i + m = l.length → x.length = l.length → (∀ j, j < i → x.getD j 0 = b + j) → Ev (fun k => F37c2 k x (b + i) (i : Int)) ((b + l.length, ()), (marks b l, (), ())) := by
    intro m
    induction m with
    | zero =>
      intro i x hi hx hj
      have hil : i = l.length := by omega
      subst hil
      have e : x = marks b l := ext_getD (by rw [marks_len]; exact hx) (fun j hj' => by rw [hj j (by omega), marks_at (by omega)])
      refine Ev.step 1 (fun k => F37c2_eq k _ _ _) ?_
      simp only [lt_false (Nat.le_of_eq hx), Bool.false_eq_true, if_false]
      rw [e]
      exact Ev.now _
    | succ m ih =>
      intro i x hi hx hj
      have hil : i < x.length := by omega
      have w : IntKind.i64.wrap (b + (i : Int) + 1) = b + ((i + 1 : Nat) : Int) := by rw [wrap64 (by omega) (by omega)]; omega
      refine Ev.step 1 (fun k => F37c2_eq k _ _ _) ?_
      simp only [lt_true hil, ge0, Bool.and_self, if_true, Int.toNat_natCast, getI_of hil, Option.bind_some, w, wrap_succ (show i < 9223372036854775807 by omega)]
      refine ih (i + 1) _ (by omega) (by simpa using hx) (fun j hj' => ?_)
      rw [getI_set hil]
      split
      · rename_i e; rw [e]
      · exact hj j (by omega)
  have h1 := key l.length 0 l (by omega) rfl (fun j hj => by omega)
  have e : b + ((0 : Nat) : Int) = b := by omega
  rw [e] at h1
  exact Ev.step 2 (fun k => F37_eq k _ _) h1
theorem heldI_ev (l : List Int) (b : Int) (h : l.length ≤ 1048576) (h0 : 0 ≤ b) (hb : b ≤ 1000000000) : Ev (fun k => F39 k (marks b l) b) ((b + l.length, ()), ((), (), ())) := by
  have key : ∀ (m i : Nat), i + m = l.length → Ev (fun k => F39c2 k (marks b l) (b + i) (i : Int)) ((b + l.length, ()), ((), (), ())) := by
    intro m
    induction m with
    | zero =>
      intro i hi
      have hil : i = l.length := by omega
      subst hil
      refine Ev.step 1 (fun k => F39c2_eq k _ _ _) ?_
      simp only [lt_false (Nat.le_of_eq (marks_len b l)), Bool.false_eq_true, if_false]
      exact Ev.now _
    | succ m ih =>
      intro i hi
      have hil : i < (marks b l).length := by rw [marks_len]; omega
      have w : IntKind.i64.wrap (b + (i : Int) + 1) = b + ((i + 1 : Nat) : Int) := by rw [wrap64 (by omega) (by omega)]; omega
      refine Ev.step 1 (fun k => F39c2_eq k _ _ _) ?_
      simp only [lt_true hil, ge0, if_true, Int.toNat_natCast, getI_of hil, Option.bind_some, marks_at (show i < l.length by omega), bne_self_eq_false, Bool.false_eq_true, if_false, w, wrap_succ (show i < 9223372036854775807 by omega)]
      exact ih (i + 1) (by omega)
  have h1 := key l.length 0 (by omega)
  have e : b + ((0 : Nat) : Int) = b := by omega
  rw [e] at h1
  exact Ev.step 2 (fun k => F39_eq k _ _) h1
theorem FnExactNodeGet : PureFnExactNodeGet := by
  intro s _
  by_cases hbig : (s.size : Int) > 1048576
  · obtain ⟨k, hk⟩ := Ev.get (g := fun k => F4 k s) (r := ((true, ()), ((), ()))) (Ev.step 2 (fun k => F4_eq k s) (by
      simp only [hbig, decide_true, if_true]
      exact Ev.now _))
    exact ⟨k, _, hk⟩
  have es : ba (bl s) = s := ba_bl s
  have hl : (bl s).length ≤ 1048576 := by rw [bl_len]; omega
  obtain ⟨n, ok, a1, a2, a3⟩ := specNodeGet_ev (bl s) hl
  obtain ⟨n', ok', b1, b2, b3⟩ := implNodeGet_ev (bl s) hl
  obtain ⟨rfl, rfl⟩ := b3.same a3
  rw [es] at a2 b2
  obtain ⟨lf, K, V, I, u⟩ := n'
  obtain ⟨⟩ := u
  have lK : K.length ≤ 1048576 := a1.1
  have lV : V.length ≤ 1048576 := a1.2.1
  have lI : I.length ≤ 1048576 := a1.2.2
  have q := F9_ev (lf, K, V, I, ()) a1
  have m1 := markS_ev K 1 lK (by omega)
  have m2 := markS_ev V (1 + K.length) lV (by omega)
  have m3 := markI_ev I ((1 + K.length + V.length : Nat) : Int) lI (by omega) (by omega)
  have mm : Ev (fun k => F12 k lf K V I 1) ((((1 + K.length + V.length : Nat) : Int) + I.length, ()), (((), mrow 1 K.length, mrow (1 + K.length) V.length, marks ((1 + K.length + V.length : Nat) : Int) I, ()), (), ())) :=
    Ev.step 2 (fun k => F12_eq k _ _ _ _ _) (Ev.bind m1 (Ev.bind m2 (Ev.bind m3 (Ev.now _))))
  have h1 := heldS_ev 1 K.length lK (by omega)
  have h2 := heldS_ev (1 + K.length) V.length lV (by omega)
  have h3 := heldI_ev I ((1 + K.length + V.length : Nat) : Int) lI (by omega) (by omega)
  have hh : Ev (fun k => F13 k lf (mrow 1 K.length) (mrow (1 + K.length) V.length) (marks ((1 + K.length + V.length : Nat) : Int) I) 1) ((((1 + K.length + V.length : Nat) : Int) + I.length, ()), (((), (), (), (), ()), (), ())) := by
    have n1 : decide (((1 + K.length : Nat) : Int) < 0) = false := decide_eq_false (by omega)
    have n2 : decide (((1 + K.length + V.length : Nat) : Int) < 0) = false := decide_eq_false (by omega)
    have n3 : decide (((1 + K.length + V.length : Nat) : Int) + (I.length : Int) < 0) = false := decide_eq_false (by omega)
    refine Ev.step 2 (fun k => F13_eq k _ _ _ _ _) (Ev.bind h1 ?_)
    simp only [n1, Bool.false_eq_true, if_false]
    refine Ev.bind h2 ?_
    simp only [n2, Bool.false_eq_true, if_false]
    refine Ev.bind h3 ?_
    simp only [n3, Bool.false_eq_true, if_false]
    exact Ev.now _
  have n4 : decide (((1 + K.length + V.length : Nat) : Int) + (I.length : Int) < 0) = false := decide_eq_false (by omega)
  obtain ⟨k, hk⟩ := Ev.get (g := fun k => F4 k s) (r := ((true, ()), ((), ()))) (Ev.step 2 (fun k => F4_eq k s) (by
    simp only [decide_eq_false hbig, Bool.false_eq_true, if_false]
    refine Ev.bind a2 (Ev.bind b2 (Ev.bind q ?_))
    simp only [beq_self_eq_true, Bool.not_true, Bool.false_eq_true, if_false]
    refine Ev.bind mm (Ev.bind hh ?_)
    simp only [n4, bne_self_eq_false, Bool.false_eq_true, if_false]
    refine Ev.bind b2 (Ev.bind q ?_)
    simp only [beq_self_eq_true, Bool.not_true, Bool.false_eq_true, if_false]
    refine Ev.bind hh ?_
    simp only [n4, bne_self_eq_false, Bool.false_eq_true, if_false]
    exact Ev.now _))
  exact ⟨k, _, hk⟩
end Go.Proofs.YtcolgghllacloaaDoor.R
end

section
/-- The row, under a short name, for the claim. -/
theorem Go.Proofs.YtcolgghllacloaaDoor.fnExactNodeGet_holds : Go.Proofs.YtcolgghllacloaaDoor.Rows.FnExactNodeGetCardSaid := Go.Proofs.YtcolgghllacloaaDoor.fnExactNodeGet.card Go.Proofs.YtcolgghllacloaaDoor.R.FnExactNodeGet
end
