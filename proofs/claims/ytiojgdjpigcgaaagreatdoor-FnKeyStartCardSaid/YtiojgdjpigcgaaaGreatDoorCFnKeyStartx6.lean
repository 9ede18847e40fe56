/- A part of the proof that the law FnKeyStart answers true for every input: contracts of functions that it reaches, or its plain law. -/
import Derived.Test.YtiojgdjpigcgaaaGreatDoorCFnKeyStartx0
import Derived.Test.YtiojgdjpigcgaaaGreatDoorCFnKeyStartx2
import Derived.Test.YtiojgdjpigcgaaaGreatDoorCFnKeyStartx3
import Derived.Test.YtiojgdjpigcgaaaGreatDoorCFnKeyStartx4
import Derived.Test.YtiojgdjpigcgaaaGreatDoorCFnKeyStartx5
section
/-! Rf: what the laws draw: values. -/
set_option autoImplicit false
set_option linter.unusedSimpArgs false
set_option linter.unusedVariables false
namespace Go.Proofs.YtiojgdjpigcgaaaGreatDoor.R
open Go.Rf
theorem leap_ev (a : Int) : ∃ b : Bool, Ev (fun k => F226 k a) ((b, ()), ((), ())) := by
  by_cases h1 : a.tmod 4 = 0
  · by_cases h2 : a.tmod 100 = 0
    · refine ⟨a.tmod 400 == 0, Ev.step 2 (fun k => F226_eq k _) ?_⟩
      simp only [h1, h2, beq_self_eq_true, bne_self_eq_false, Bool.false_eq_true, if_true, if_false]
      exact Ev.now _
    · refine ⟨true, Ev.step 2 (fun k => F226_eq k _) ?_⟩
      simp only [h1, bne_iff_ne.2 h2, beq_self_eq_true, if_true]
      exact Ev.now _
  · refine ⟨a.tmod 400 == 0, Ev.step 2 (fun k => F226_eq k _) ?_⟩
    simp only [beq_eq_false_iff_ne.2 h1, Bool.false_eq_true, if_false]
    exact Ev.now _
theorem last_ev (y m : Int) : ∃ v : Int, Ev (fun k => F194 k y m) ((v, ()), ((), (), ())) := by
  by_cases h2 : m = 2
  · obtain ⟨b, hb⟩ := leap_ev y
    refine ⟨if b = true then 29 else 28, Ev.step 2 (fun k => F194_eq k _ _) ?_⟩
    simp only [h2, beq_self_eq_true, if_true]
    refine Ev.bind hb ?_
    cases b
    · simp only [Bool.false_eq_true, if_false]; exact Ev.now _
    · simp only [if_true]; exact Ev.now _
  have g2 := beq_eq_false_iff_ne.2 h2
  by_cases h : m = 4 ∨ m = 6 ∨ m = 9 ∨ m = 11
  · refine ⟨30, Ev.step 2 (fun k => F194_eq k _ _) ?_⟩
    rcases h with rfl | rfl | rfl | rfl
    · exact Ev.now _
    · exact Ev.now _
    · exact Ev.now _
    · exact Ev.now _
  · refine ⟨31, Ev.step 2 (fun k => F194_eq k _ _) ?_⟩
    simp only [g2, beq_eq_false_iff_ne.2 (show m ≠ 4 by omega), beq_eq_false_iff_ne.2 (show m ≠ 6 by omega), beq_eq_false_iff_ne.2 (show m ≠ 9 by omega), beq_eq_false_iff_ne.2 (show m ≠ 11 by omega), Bool.false_eq_true, if_false]
    exact Ev.step 1 (fun k => F194c11_eq k) (Ev.now _)
theorem ofC {y m : Int} (hm : m ≤ 100) : ∀ (n : Nat) (i x : Int), m ≤ i + n → 1 ≤ i → i ≤ 100 → ∃ v : Int, Ev (fun k => F154c3 k y m x i) ((v, ()), ((), (), (), ()))
  | 0, i, x, h, _, _ => by
    refine ⟨x, Ev.step 1 (fun k => F154c3_eq k _ _ _ _) ?_⟩
    simp only [decide_eq_false (show ¬ i < m by omega), Bool.false_eq_true, if_false]
    exact Ev.now _
  | n + 1, i, x, h, h1, h2 => by
    by_cases hi : i < m
    · obtain ⟨u, hu⟩ := last_ev y i
      obtain ⟨v, hv⟩ := ofC hm n (i + 1) (IntKind.i64.wrap (x + u)) (by omega) (by omega) (by omega)
      refine ⟨v, Ev.step 1 (fun k => F154c3_eq k _ _ _ _) ?_⟩
      simp only [decide_eq_true hi, if_true, wrap64 (show -9223372036854775808 ≤ i + 1 by omega) (by omega)]
      exact Ev.bind hu hv
    · refine ⟨x, Ev.step 1 (fun k => F154c3_eq k _ _ _ _) ?_⟩
      simp only [decide_eq_false hi, Bool.false_eq_true, if_false]
      exact Ev.now _
theorem l3Of_ev (y m d : Int) (hm : m ≤ 100) : ∃ v : Int, Ev (fun k => F154 k y m d) ((v, ()), ((), (), (), ())) := by
  have hb : ∃ u : Int, Ev (fun k => F193 k y) ((u, ()), ((), ())) := ⟨_, Ev.step 2 (fun k => F193_eq k _) (Ev.now _)⟩
  obtain ⟨u, hu⟩ := hb
  obtain ⟨v, hv⟩ := ofC (y := y) (m := m) hm 200 1 (IntKind.i64.wrap (u + d)) (by omega) (by omega) (by omega)
  exact ⟨v, Ev.step 2 (fun k => F154_eq k _ _ _) (Ev.bind hu hv)⟩
section
variable {bs : List Int} (hb : Rd bs)
include hb
theorem of_ev {p : Nat} (hp : p ≤ 1000000000) (l : List ByteArray) (hl : 0 < l.length) (hl2 : l.length ≤ 1000) : ∃ v ∈ l, Ev (fun k => F101 k bs (p : Int) l) ((v, ()), ((bs, ((p + 1 : Nat) : Int), ()), (), ())) := by
  obtain ⟨v, ⟨h0, h1, _⟩, h2⟩ := pick_ev hb hp (l.length : Int)
  have h1 := h1 (by omega)
  obtain ⟨y, hy⟩ : ∃ y, l[v.toNat]? = some y := ⟨_, List.getElem?_eq_getElem (by omega)⟩
  refine ⟨y, List.mem_of_getElem? hy, Ev.step 2 (fun k => F101_eq k _ _ _) (Ev.bind h2 ?_)⟩
  simp only [decide_eq_true h0, decide_eq_true h1, Bool.and_self, if_true, hy, Option.bind_some]
  exact Ev.now _
theorem day_ev {p : Nat} (hp : p + 10 ≤ 1000000) : ∃ (v : Int) (q : Nat), q ≤ p + 10 ∧ Ev (fun k => F113 k bs (p : Int)) ((v, ()), ((bs, (q : Int), ()), ())) := by
  obtain ⟨v, ⟨v0, v1, _⟩, h1⟩ := pick_ev hb (show p ≤ 1000000000 by omega) 6
  by_cases c0 : v = 0
  · obtain ⟨u, _, h2⟩ := one_ev hb (show p + 1 ≤ 1000000000 by omega) [1, 2, 31, 59, 60, 3652059, 3652058, 366] (by simp)
    refine ⟨u, p + 1 + 1, by omega, Ev.step 2 (fun k => F113_eq k _ _) (Ev.bind h1 ?_)⟩
    simp only [c0, beq_self_eq_true, if_true]
    exact Ev.bind h2 (Ev.now _)
  by_cases c1 : v = 1
  · obtain ⟨u, _, h2⟩ := one_ev hb (show p + 1 ≤ 1000000000 by omega) [4, 1900, 2000, 2023, 2024, 2100, 9999] (by simp)
    obtain ⟨u2, hu2, h3⟩ := one_ev hb (show p + 1 + 1 ≤ 1000000000 by omega) [1, 2, 2, 3, 12] (by simp)
    obtain ⟨w, h4⟩ := l3Of_ev u u2 28 (by simp at hu2; omega)
    refine ⟨w, p + 1 + 1 + 1, by omega, Ev.step 2 (fun k => F113_eq k _ _) (Ev.bind h1 ?_)⟩
    simp only [c1, show ((1 : Int) == 0) = false from rfl, beq_self_eq_true, Bool.false_eq_true, if_false, if_true]
    exact Ev.bind h2 (Ev.bind h3 (Ev.bind h4 (Ev.now _)))
  by_cases c2 : v = 2
  · obtain ⟨u, _, h2⟩ := one_ev hb (show p + 1 ≤ 1000000000 by omega) [4, 2000, 2024, 9996] (by simp)
    obtain ⟨w, h4⟩ := l3Of_ev u 2 29 (by omega)
    refine ⟨w, p + 1 + 1, by omega, Ev.step 2 (fun k => F113_eq k _ _) (Ev.bind h1 ?_)⟩
    simp only [c2, show ((2 : Int) == 0) = false from rfl, show ((2 : Int) == 1) = false from rfl, beq_self_eq_true, Bool.false_eq_true, if_false, if_true]
    exact Ev.bind h2 (Ev.bind h4 (Ev.now _))
  by_cases c3 : v = 3
  · obtain ⟨u, _, h2⟩ := one_ev hb (show p + 1 ≤ 1000000000 by omega) [1, 2023, 2024, 9999] (by simp)
    obtain ⟨u2, hu2, h3⟩ := one_ev hb (show p + 1 + 1 ≤ 1000000000 by omega) [1, 3, 5, 8, 10, 12] (by simp)
    obtain ⟨w, h4⟩ := l3Of_ev u u2 31 (by simp at hu2; omega)
    refine ⟨w, p + 1 + 1 + 1, by omega, Ev.step 2 (fun k => F113_eq k _ _) (Ev.bind h1 ?_)⟩
    simp only [c3, show ((3 : Int) == 0) = false from rfl, show ((3 : Int) == 1) = false from rfl, show ((3 : Int) == 2) = false from rfl, beq_self_eq_true, Bool.false_eq_true, if_false, if_true]
    exact Ev.bind h2 (Ev.bind h3 (Ev.bind h4 (Ev.now _)))
  · obtain ⟨u, ⟨u0, u1, _⟩, h2⟩ := pick_ev hb (show p + 1 ≤ 1000000000 by omega) 8
    obtain ⟨u', ⟨u0', u1', _⟩, h3⟩ := pick_ev hb (show p + 1 + 1 ≤ 1000000000 by omega) 12
    obtain ⟨w, _, h4⟩ := pick_ev hb (show p + 1 + 1 + 1 ≤ 1000000000 by omega) 28
    have u1' := u1' (by omega)
    obtain ⟨d, h5⟩ := l3Of_ev (IntKind.i64.wrap (2020 + u)) (IntKind.i64.wrap (1 + u')) (IntKind.i64.wrap (1 + w)) (by rw [wrap64 (by omega) (by omega)]; omega)
    refine ⟨d, p + 1 + 1 + 1 + 1, by omega, Ev.step 2 (fun k => F113_eq k _ _) (Ev.bind h1 ?_)⟩
    simp only [beq_eq_false_iff_ne.2 c0, beq_eq_false_iff_ne.2 c1, beq_eq_false_iff_ne.2 c2, beq_eq_false_iff_ne.2 c3, Bool.false_eq_true, if_false]
    exact Ev.bind h2 (Ev.bind h3 (Ev.bind h4 (Ev.bind h5 (Ev.now _))))
theorem span_ev {p : Nat} (hp : p + 10 ≤ 1000000) : ∃ (m d : Int) (q : Nat), q ≤ p + 10 ∧ Ev (fun k => F114 k bs (p : Int)) (((m, d, ()), ()), ((bs, (q : Int), ()), ())) := by
  obtain ⟨v, ⟨v0, v1, _⟩, h1⟩ := pick_ev hb (show p ≤ 1000000000 by omega) 5
  by_cases c0 : v = 0
  · obtain ⟨u, _, h2⟩ := one_ev hb (show p + 1 ≤ 1000000000 by omega) [0, 120000, -120000, 119987, -119988] (by simp)
    obtain ⟨u2, _, h3⟩ := one_ev hb (show p + 1 + 1 ≤ 1000000000 by omega) [0, 4000000, -4000000] (by simp)
    refine ⟨u, u2, p + 1 + 1 + 1, by omega, Ev.step 2 (fun k => F114_eq k _ _) (Ev.bind h1 ?_)⟩
    simp only [c0, beq_self_eq_true, if_true]
    exact Ev.bind h2 (Ev.bind h3 (Ev.now _))
  by_cases c1 : v = 1
  · obtain ⟨u, _, h2⟩ := pick_ev hb (show p + 1 ≤ 1000000000 by omega) 30
    refine ⟨IntKind.i64.wrap (u - 15), 0, p + 1 + 1, by omega, Ev.step 2 (fun k => F114_eq k _ _) (Ev.bind h1 ?_)⟩
    simp only [c1, show ((1 : Int) == 0) = false from rfl, beq_self_eq_true, Bool.false_eq_true, if_false, if_true]
    exact Ev.bind h2 (Ev.now _)
  by_cases c2 : v = 2
  · obtain ⟨u, _, h2⟩ := pick_ev hb (show p + 1 ≤ 1000000000 by omega) 80
    refine ⟨0, IntKind.i64.wrap (u - 40), p + 1 + 1, by omega, Ev.step 2 (fun k => F114_eq k _ _) (Ev.bind h1 ?_)⟩
    simp only [c2, show ((2 : Int) == 0) = false from rfl, show ((2 : Int) == 1) = false from rfl, beq_self_eq_true, Bool.false_eq_true, if_false, if_true]
    exact Ev.bind h2 (Ev.now _)
  · obtain ⟨u, _, h2⟩ := pick_ev hb (show p + 1 ≤ 1000000000 by omega) 60
    obtain ⟨u2, _, h3⟩ := pick_ev hb (show p + 1 + 1 ≤ 1000000000 by omega) 60
    refine ⟨IntKind.i64.wrap (u - 30), IntKind.i64.wrap (u2 - 30), p + 1 + 1 + 1, by omega, Ev.step 2 (fun k => F114_eq k _ _) (Ev.bind h1 ?_)⟩
    simp only [beq_eq_false_iff_ne.2 c0, beq_eq_false_iff_ne.2 c1, beq_eq_false_iff_ne.2 c2, Bool.false_eq_true, if_false]
    exact Ev.bind h2 (Ev.bind h3 (Ev.now _))
theorem word_ev {p : Nat} (hp : p + 10 ≤ 1000000) : ∃ t : ByteArray, t.size ≤ 100 ∧ Ev (fun k => F115 k bs (p : Int)) ((t, ()), ((bs, ((p + 1 : Nat) : Int), ()), ())) := by
  obtain ⟨t, ht, h1⟩ := of_ev hb (show p ≤ 1000000000 by omega) [(⟨#[]⟩ : ByteArray), (⟨#[97]⟩ : ByteArray), (⟨#[98]⟩ : ByteArray), (⟨#[97, 98]⟩ : ByteArray), (⟨#[105, 116, 39, 115]⟩ : ByteArray), (⟨#[39, 39]⟩ : ByteArray), (⟨#[122, 32, 122]⟩ : ByteArray), (⟨#[116, 114, 117, 101]⟩ : ByteArray), (⟨#[49, 50]⟩ : ByteArray), (⟨#[49, 46, 53, 48]⟩ : ByteArray), (⟨#[50, 48, 50, 52, 45, 48, 50, 45, 50, 57]⟩ : ByteArray), (⟨#[126, 126, 126, 126, 126, 126, 126, 126, 126, 126, 126, 126]⟩ : ByteArray), (⟨#[51, 109, 45, 52, 100]⟩ : ByteArray), (⟨#[65]⟩ : ByteArray)] (by simp) (by simp)
  refine ⟨t, ?_, Ev.step 2 (fun k => F115_eq k _ _) (Ev.bind h1 (Ev.now _))⟩
  simp only [List.mem_cons, List.not_mem_nil, or_false] at ht
  rcases ht with rfl | rfl | rfl | rfl | rfl | rfl | rfl | rfl | rfl | rfl | rfl | rfl | rfl | rfl <;> decide
theorem anyDay_ev {p : Nat} (hp : p + 20 ≤ 1000000) : ∃ (v : Int) (q : Nat), q ≤ p + 20 ∧ Ev (fun k => F103 k bs (p : Int)) ((v, ()), ((bs, (q : Int), ()), ())) := by
  obtain ⟨v, _, h1⟩ := pick_ev hb (show p ≤ 1000000000 by omega) 20
  by_cases c0 : v = 0
  · obtain ⟨u, _, h2⟩ := one_ev hb (show p + 1 ≤ 1000000000 by omega) [0, -1, 3652060] (by simp)
    refine ⟨u, p + 1 + 1, by omega, Ev.step 2 (fun k => F103_eq k _ _) (Ev.bind h1 ?_)⟩
    simp only [c0, beq_self_eq_true, if_true]
    exact Ev.bind h2 (Ev.now _)
  · obtain ⟨u, q, hq, h2⟩ := day_ev hb (p := p + 1) (by omega)
    refine ⟨u, q, by omega, Ev.step 2 (fun k => F103_eq k _ _) (Ev.bind h1 ?_)⟩
    simp only [beq_eq_false_iff_ne.2 c0, Bool.false_eq_true, if_false]
    exact Ev.bind h2 (Ev.now _)
theorem anySpan_ev {p : Nat} (hp : p + 20 ≤ 1000000) : ∃ (m d : Int) (q : Nat), q ≤ p + 20 ∧ Ev (fun k => F104 k bs (p : Int)) (((m, d, ()), ()), ((bs, (q : Int), ()), ())) := by
  obtain ⟨m, d, q, hq, h1⟩ := span_ev hb (p := p) (by omega)
  have c4 : ∀ (q : Nat) (x y m : Int), q + 3 ≤ 1000000 → ∃ (m' d' : Int) (q' : Nat), q' ≤ q + 3 ∧ Ev (fun k => F104c4 k bs (q : Int) x y m d) (((m', d', ()), ()), ((bs, (q' : Int), ()), ())) := fun q x y m hq => by
    obtain ⟨v, _, h2⟩ := pick_ev hb (show q ≤ 1000000000 by omega) 20
    by_cases c0 : v = 0
    · obtain ⟨u, _, h3⟩ := one_ev hb (show q + 1 ≤ 1000000000 by omega) [4000001, -4000001] (by simp)
      refine ⟨m, u, q + 1 + 1, by omega, Ev.step 1 (fun k => F104c4_eq k _ _ _ _ _ _) (Ev.bind h2 ?_)⟩
      simp only [c0, beq_self_eq_true, if_true]
      exact Ev.bind h3 (Ev.step 1 (fun k => F104c6_eq k _ _ _ _ _ _) (Ev.now _))
    · refine ⟨m, d, q + 1, by omega, Ev.step 1 (fun k => F104c4_eq k _ _ _ _ _ _) (Ev.bind h2 ?_)⟩
      simp only [beq_eq_false_iff_ne.2 c0, Bool.false_eq_true, if_false]
      exact Ev.step 1 (fun k => F104c6_eq k _ _ _ _ _ _) (Ev.now _)
  obtain ⟨v, _, h2⟩ := pick_ev hb (show q ≤ 1000000000 by omega) 20
  by_cases c0 : v = 0
  · obtain ⟨u, _, h3⟩ := one_ev hb (show q + 1 ≤ 1000000000 by omega) [120001, -120001] (by simp)
    obtain ⟨m', d', q', hq', h4⟩ := c4 (q + 1 + 1) 0 0 u (by omega)
    refine ⟨m', d', q', by omega, Ev.step 2 (fun k => F104_eq k _ _) (Ev.bind h1 (Ev.bind h2 ?_))⟩
    simp only [c0, beq_self_eq_true, if_true]
    exact Ev.bind h3 h4
  · obtain ⟨m', d', q', hq', h4⟩ := c4 (q + 1) 0 0 m (by omega)
    refine ⟨m', d', q', by omega, Ev.step 2 (fun k => F104_eq k _ _) (Ev.bind h1 (Ev.bind h2 ?_))⟩
    simp only [beq_eq_false_iff_ne.2 c0, Bool.false_eq_true, if_false]
    exact h4
theorem valueOf_ev {p : Nat} (hp : p + 700 ≤ 1000000) (kd : Int) : ∃ (k0 : Int) (y n : Bool) (l : List Int) (s day mo da : Int) (t : ByteArray) (q : Nat), l.length ≤ 100 ∧ t.size ≤ 100 ∧ q ≤ p + 700 ∧ Ev (fun k => F70 k bs (p : Int) kd) (((k0, y, n, l, s, day, mo, da, t, ()), ()), ((bs, (q : Int), ()), (), ())) := by
  by_cases c1 : kd = 1
  · obtain ⟨v, _, h1⟩ := pick_ev hb (show p ≤ 1000000000 by omega) 2
    refine ⟨1, (v == 0), false, [], 0, 0, 0, 0, ByteArray.empty, p + 1, by simp, by decide, by omega, Ev.step 2 (fun k => F70_eq k _ _ _) ?_⟩
    simp only [c1, beq_self_eq_true, if_true]
    exact Ev.bind h1 (Ev.bind (Ev.step 2 (fun k => F110_eq k _) (Ev.now _)) (Ev.now _))
  by_cases c2 : kd = 2
  · obtain ⟨z, s, q, hz, _, hq, h1⟩ := l14Dec_ev hb (p := p) (by omega)
    have hl := z16 hz
    refine ⟨2, false, decide (z < 0), digs z.natAbs, (s : Int), 0, 0, 0, ByteArray.empty, q, by omega, by decide, by omega, Ev.step 2 (fun k => F70_eq k _ _ _) ?_⟩
    simp only [c2, show ((2 : Int) == 1) = false from rfl, beq_self_eq_true, Bool.false_eq_true, if_false, if_true]
    exact Ev.bind h1 (Ev.bind (Ev.step 2 (fun k => F111_eq k _ _ _) (Ev.now _)) (Ev.now _))
  by_cases c3 : kd = 3
  · obtain ⟨v, q, hq, h1⟩ := day_ev hb (p := p) (by omega)
    refine ⟨3, false, false, [], 0, v, 0, 0, ByteArray.empty, q, by simp, by decide, by omega, Ev.step 2 (fun k => F70_eq k _ _ _) ?_⟩
    simp only [c3, show ((3 : Int) == 1) = false from rfl, show ((3 : Int) == 2) = false from rfl, beq_self_eq_true, Bool.false_eq_true, if_false, if_true]
    exact Ev.bind h1 (Ev.now _)
  by_cases c4 : kd = 4
  · obtain ⟨m, d, q, hq, h1⟩ := span_ev hb (p := p) (by omega)
    refine ⟨4, false, false, [], 0, 0, m, d, ByteArray.empty, q, by simp, by decide, by omega, Ev.step 2 (fun k => F70_eq k _ _ _) ?_⟩
    simp only [c4, show ((4 : Int) == 1) = false from rfl, show ((4 : Int) == 2) = false from rfl, show ((4 : Int) == 3) = false from rfl, beq_self_eq_true, Bool.false_eq_true, if_false, if_true]
    exact Ev.bind h1 (Ev.now _)
  by_cases c5 : kd = 5
  · obtain ⟨t, ht, h1⟩ := word_ev hb (p := p) (by omega)
    refine ⟨5, false, false, [], 0, 0, 0, 0, t, p + 1, by simp, ht, by omega, Ev.step 2 (fun k => F70_eq k _ _ _) ?_⟩
    simp only [c5, show ((5 : Int) == 1) = false from rfl, show ((5 : Int) == 2) = false from rfl, show ((5 : Int) == 3) = false from rfl, show ((5 : Int) == 4) = false from rfl, beq_self_eq_true, Bool.false_eq_true, if_false, if_true]
    exact Ev.bind h1 (Ev.now _)
  · refine ⟨0, false, false, [], 0, 0, 0, 0, ByteArray.empty, p, by simp, by decide, by omega, Ev.step 2 (fun k => F70_eq k _ _ _) ?_⟩
    simp only [beq_eq_false_iff_ne.2 c1, beq_eq_false_iff_ne.2 c2, beq_eq_false_iff_ne.2 c3, beq_eq_false_iff_ne.2 c4, beq_eq_false_iff_ne.2 c5, Bool.false_eq_true, if_false]
    exact Ev.now _
theorem value_ev {p : Nat} (hp : p + 800 ≤ 1000000) : ∃ (k0 : Int) (y n : Bool) (l : List Int) (s day mo da : Int) (t : ByteArray) (q : Nat), l.length ≤ 100 ∧ t.size ≤ 100 ∧ q ≤ p + 800 ∧ Ev (fun k => F100 k bs (p : Int)) (((k0, y, n, l, s, day, mo, da, t, ()), ()), ((bs, (q : Int), ()), ())) := by
  obtain ⟨v, _, h1⟩ := pick_ev hb (show p ≤ 1000000000 by omega) 6
  obtain ⟨k0, y, n, l, s, day, mo, da, t, q, hl, ht, hq, h2⟩ := valueOf_ev hb (p := p + 1) (by omega) v
  exact ⟨k0, y, n, l, s, day, mo, da, t, q, hl, ht, by omega, Ev.step 2 (fun k => F100_eq k _ _) (Ev.bind h1 (Ev.bind h2 (Ev.now _)))⟩
theorem anyValue_ev {p : Nat} (hp : p + 3000 ≤ 1000000) : ∃ (k0 : Int) (y n : Bool) (l : List Int) (s day mo da : Int) (t : ByteArray) (q : Nat), l.length ≤ 100 ∧ t.size ≤ 100 ∧ q ≤ p + 3000 ∧ Ev (fun k => F55 k bs (p : Int)) (((k0, y, n, l, s, day, mo, da, t, ()), ()), ((bs, (q : Int), ()), ())) := by
  obtain ⟨k0, y, n, l, s, day, mo, da, t, q, hl, ht, hq, h1⟩ := value_ev hb (p := p) (by omega)
  obtain ⟨v, _, h2⟩ := pick_ev hb (show q ≤ 1000000000 by omega) 30
  by_cases c0 : v = 0
  · obtain ⟨u, _, h3⟩ := one_ev hb (show q + 1 ≤ 1000000000 by omega) [-1, 6, 1, 2] (by simp)
    refine ⟨u, y, n, l, s, day, mo, da, t, q + 1 + 1, hl, ht, by omega, Ev.step 2 (fun k => F55_eq k _ _) (Ev.bind h1 (Ev.bind h2 ?_))⟩
    simp only [c0, beq_self_eq_true, if_true]
    exact Ev.bind h3 (Ev.step 1 (fun k => F55c15_eq k _ _ _ _ _ _ _ _ _ _ _ _ _ _ _ _ _ _ _ _) (Ev.now _))
  by_cases c1 : v = 1
  · obtain ⟨u, hu, h3⟩ := of_ev hb (show q + 1 ≤ 1000000000 by omega) [(⟨#[116, 104, 105, 114, 116, 101, 101, 110, 32, 98, 121, 116, 101]⟩ : ByteArray), (⟨#[97, 10]⟩ : ByteArray), (⟨#[127]⟩ : ByteArray), (⟨#[120]⟩ : ByteArray)] (by simp) (by simp)
    have hu2 : u.size ≤ 100 := by
      simp only [List.mem_cons, List.not_mem_nil, or_false] at hu
      rcases hu with rfl | rfl | rfl | rfl <;> decide
    refine ⟨k0, y, n, l, s, day, mo, da, u, q + 1 + 1, hl, hu2, by omega, Ev.step 2 (fun k => F55_eq k _ _) (Ev.bind h1 (Ev.bind h2 ?_))⟩
    simp only [c1, show ((1 : Int) == 0) = false from rfl, beq_self_eq_true, Bool.false_eq_true, if_false, if_true]
    exact Ev.bind h3 (Ev.step 1 (fun k => F55c15_eq k _ _ _ _ _ _ _ _ _ _ _ _ _ _ _ _ _ _ _ _) (Ev.now _))
  by_cases c2 : v = 2
  · obtain ⟨n', l', s', q', hl', hq', h3⟩ := anyDec_ev hb (p := q + 1) (by omega)
    refine ⟨k0, y, n', l', s', day, mo, da, t, q', hl', ht, by omega, Ev.step 2 (fun k => F55_eq k _ _) (Ev.bind h1 (Ev.bind h2 ?_))⟩
    simp only [c2, show ((2 : Int) == 0) = false from rfl, show ((2 : Int) == 1) = false from rfl, beq_self_eq_true, Bool.false_eq_true, if_false, if_true]
    exact Ev.bind h3 (Ev.step 1 (fun k => F55c15_eq k _ _ _ _ _ _ _ _ _ _ _ _ _ _ _ _ _ _ _ _) (Ev.now _))
  by_cases c3 : v = 3
  · obtain ⟨u, q', hq', h3⟩ := anyDay_ev hb (p := q + 1) (by omega)
    refine ⟨k0, y, n, l, s, u, mo, da, t, q', hl, ht, by omega, Ev.step 2 (fun k => F55_eq k _ _) (Ev.bind h1 (Ev.bind h2 ?_))⟩
    simp only [c3, show ((3 : Int) == 0) = false from rfl, show ((3 : Int) == 1) = false from rfl, show ((3 : Int) == 2) = false from rfl, beq_self_eq_true, Bool.false_eq_true, if_false, if_true]
    exact Ev.bind h3 (Ev.step 1 (fun k => F55c15_eq k _ _ _ _ _ _ _ _ _ _ _ _ _ _ _ _ _ _ _ _) (Ev.now _))
  by_cases c4 : v = 4
  · refine ⟨k0, true, n, l, s, day, mo, da, t, q + 1, hl, ht, by omega, Ev.step 2 (fun k => F55_eq k _ _) (Ev.bind h1 (Ev.bind h2 ?_))⟩
    simp only [c4, show ((4 : Int) == 0) = false from rfl, show ((4 : Int) == 1) = false from rfl, show ((4 : Int) == 2) = false from rfl, show ((4 : Int) == 3) = false from rfl, beq_self_eq_true, Bool.false_eq_true, if_false, if_true]
    exact Ev.step 1 (fun k => F55c15_eq k _ _ _ _ _ _ _ _ _ _ _ _ _ _ _ _ _ _ _ _) (Ev.now _)
  by_cases c5 : v = 5
  · obtain ⟨m', d', q', hq', h3⟩ := anySpan_ev hb (p := q + 1) (by omega)
    refine ⟨k0, y, n, l, s, day, m', d', t, q', hl, ht, by omega, Ev.step 2 (fun k => F55_eq k _ _) (Ev.bind h1 (Ev.bind h2 ?_))⟩
    simp only [c5, show ((5 : Int) == 0) = false from rfl, show ((5 : Int) == 1) = false from rfl, show ((5 : Int) == 2) = false from rfl, show ((5 : Int) == 3) = false from rfl, show ((5 : Int) == 4) = false from rfl, beq_self_eq_true, Bool.false_eq_true, if_false, if_true]
    exact Ev.bind h3 (Ev.step 1 (fun k => F55c15_eq k _ _ _ _ _ _ _ _ _ _ _ _ _ _ _ _ _ _ _ _) (Ev.now _))
  · refine ⟨k0, y, n, l, s, day, mo, da, t, q + 1, hl, ht, by omega, Ev.step 2 (fun k => F55_eq k _ _) (Ev.bind h1 (Ev.bind h2 ?_))⟩
    simp only [beq_eq_false_iff_ne.2 c0, beq_eq_false_iff_ne.2 c1, beq_eq_false_iff_ne.2 c2, beq_eq_false_iff_ne.2 c3, beq_eq_false_iff_ne.2 c4, beq_eq_false_iff_ne.2 c5, Bool.false_eq_true, if_false]
    exact Ev.step 1 (fun k => F55c15_eq k _ _ _ _ _ _ _ _ _ _ _ _ _ _ _ _ _ _ _ _) (Ev.now _)
end
theorem drawCmp_ev (code : List Int) (w : ∀ y ∈ code, 0 ≤ y ∧ y ≤ 255) : ∃ (k1 : Int) (y1 n1 : Bool) (l1 : List Int) (s1 d1 m1 a1 : Int) (t1 : ByteArray) (k2 : Int) (y2 n2 : Bool) (l2 : List Int) (s2 d2 m2 a2 : Int) (t2 : ByteArray), l1.length ≤ 100 ∧ t1.size ≤ 100 ∧ l2.length ≤ 100 ∧ t2.size ≤ 100 ∧ Ev (fun k => F32 k code) (((k1, y1, n1, l1, s1, d1, m1, a1, t1, ()), (k2, y2, n2, l2, s2, d2, m2, a2, t2, ()), ()), ((), ())) := by
  obtain ⟨bs, hb, h1⟩ := open_ev code w
  obtain ⟨k1, y1, n1, l1, s1, d1, m1, a1, t1, q, hl1, ht1, hq, h2⟩ := anyValue_ev hb (p := 0) (by omega)
  obtain ⟨v, _, h3⟩ := pick_ev hb (show q ≤ 1000000000 by omega) 3
  by_cases c : v > 0
  · obtain ⟨k2, y2, n2, l2, s2, d2, m2, a2, t2, q2, hl2, ht2, hq2, h4⟩ := valueOf_ev hb (p := q + 1) (by omega) k1
    refine ⟨k1, y1, n1, l1, s1, d1, m1, a1, t1, k2, y2, n2, l2, s2, d2, m2, a2, t2, hl1, ht1, hl2, ht2, Ev.step 2 (fun k => F32_eq k _) (Ev.bind h1 (Ev.bind h2 (Ev.bind h3 ?_)))⟩
    simp only [c, decide_true, if_true]
    exact Ev.bind h4 (Ev.now _)
  · obtain ⟨k2, y2, n2, l2, s2, d2, m2, a2, t2, q2, hl2, ht2, hq2, h4⟩ := anyValue_ev hb (p := q + 1) (by omega)
    refine ⟨k1, y1, n1, l1, s1, d1, m1, a1, t1, k2, y2, n2, l2, s2, d2, m2, a2, t2, hl1, ht1, hl2, ht2, Ev.step 2 (fun k => F32_eq k _) (Ev.bind h1 (Ev.bind h2 (Ev.bind h3 ?_)))⟩
    simp only [c, decide_false, Bool.false_eq_true, if_false]
    exact Ev.bind h4 (Ev.now _)
theorem drawOrder_ev (code : List Int) (w : ∀ y ∈ code, 0 ≤ y ∧ y ≤ 255) : ∃ (k1 : Int) (y1 n1 : Bool) (l1 : List Int) (s1 d1 m1 a1 : Int) (t1 : ByteArray) (k2 : Int) (y2 n2 : Bool) (l2 : List Int) (s2 d2 m2 a2 : Int) (t2 : ByteArray), l1.length ≤ 100 ∧ t1.size ≤ 100 ∧ l2.length ≤ 100 ∧ t2.size ≤ 100 ∧ Ev (fun k => F9 k code) (((k1, y1, n1, l1, s1, d1, m1, a1, t1, ()), (k2, y2, n2, l2, s2, d2, m2, a2, t2, ()), ()), ((), ())) := by
  obtain ⟨k1, y1, n1, l1, s1, d1, m1, a1, t1, k2, y2, n2, l2, s2, d2, m2, a2, t2, hl1, ht1, hl2, ht2, h⟩ := drawCmp_ev code w
  exact ⟨k1, y1, n1, l1, s1, d1, m1, a1, t1, k2, y2, n2, l2, s2, d2, m2, a2, t2, hl1, ht1, hl2, ht2, Ev.step 2 (fun k => F9_eq k _) (Ev.bind h (Ev.now _))⟩
end Go.Proofs.YtiojgdjpigcgaaaGreatDoor.R
end

section
/-! Rf: decimals in order, as whole numbers with a scale: what the functions answer. -/
set_option autoImplicit false
set_option linter.unusedSimpArgs false
set_option linter.unusedVariables false
namespace Go.Proofs.YtiojgdjpigcgaaaGreatDoor.R
open Go.Rf
/-- are two decimals written alike? -/
def alike (n1 : Bool) (l1 : List Int) (s1 : Int) (n2 : Bool) (l2 : List Int) (s2 : Int) : Bool := (s1 == s2) && ((n1 == n2) && decide (l1 = l2))
theorem alike_self (n : Bool) (l : List Int) (s : Int) : alike n l s n l s = true := by simp [alike]
theorem digs_inj {a b : Nat} (h : digs a = digs b) : a = b := by
  have h1 := VI_digs a
  have h2 := VI_digs b
  rw [h] at h1
  omega
theorem alike_D {z1 z2 : Int} {s1 s2 : Nat} : alike (decide (z1 < 0)) (digs z1.natAbs) (s1 : Int) (decide (z2 < 0)) (digs z2.natAbs) (s2 : Int) = decide (z1 = z2 ∧ s1 = s2) := by
  unfold alike
  by_cases h : z1 = z2 ∧ s1 = s2
  · obtain ⟨rfl, rfl⟩ := h
    simp
  · rw [decide_eq_false h]
    by_cases hs : s1 = s2
    · have hz : z1 ≠ z2 := fun e => h ⟨e, hs⟩
      have : ¬ (decide (z1 < 0) = decide (z2 < 0) ∧ digs z1.natAbs = digs z2.natAbs) := by
        rintro ⟨h1, h2⟩
        have h3 := digs_inj h2
        have h4 : (z1 < 0) ↔ (z2 < 0) := by simpa using h1
        omega
      by_cases hd : decide (z1 < 0) = decide (z2 < 0)
      · simp only [hd, beq_self_eq_true, Bool.true_and, decide_eq_false (fun e => this ⟨hd, e⟩), Bool.and_false]
      · rw [beq_eq_false_iff_ne.2 hd, Bool.false_and, Bool.and_false]
    · have : ((s1 : Int) == (s2 : Int)) = false := by rw [beq_eq_false_iff_ne]; omega
      rw [this, Bool.false_and]
section
variable (n1 : Bool) (l1 : List Int) (s1 : Int) (n2 : Bool) (l2 : List Int) (s2 : Int)
end
section
variable {z1 z2 : Int} {s1 s2 : Nat} (h1 : z1.natAbs < 10 ^ 30) (h2 : z2.natAbs < 10 ^ 30) (t1 : s1 ≤ 12) (t2 : s2 ≤ 12)
include h1 h2 t1 t2
end
theorem okD {z : Int} {s : Nat} (h : z.natAbs < 10 ^ 30) (t : s ≤ 12) : Ev (fun k => F71 k (decide (z < 0)) (digs z.natAbs) (s : Int)) ((true, ()), (((), (), (), ()), ())) := by
  have o1 : (digs z.natAbs).length ≤ 1048576 := by have := len16 h; omega
  have := DecOk_ev (decide (z < 0)) (digs z.natAbs) (s : Int) o1
  rwa [decOk_D h t] at this
theorem mk_fine {z : Int} {s : Nat} (h : z.natAbs < 10 ^ 30) : mk z s = (D z s, 0, ()) := if_pos h
theorem mk_over {z : Int} {s : Nat} (h : ¬ z.natAbs < 10 ^ 30) : mk z s = ((false, [], 0, ()), 3, ()) := if_neg h
theorem u8_of {y : Int} (h : wfT (.int .u8) y) : 0 ≤ y ∧ y ≤ 255 := by
  have h : (Lit.int .u8 y).wf = true := h
  simp [Lit.wf, IntKind.min, IntKind.max, IntKind.bits, IntKind.signed] at h
  omega
theorem cmpZ_eq (x : Int) : cmpZ x x = 0 := by unfold cmpZ; rw [if_neg (by omega), if_pos rfl]
theorem cmpZ_zero {x y : Int} : cmpZ x y = 0 ↔ x = y := by
  unfold cmpZ
  constructor
  · intro h
    split at h
    · omega
    · split at h
      · assumption
      · omega
  · rintro rfl
    rw [if_neg (by omega), if_pos rfl]
theorem cmpZ_swap (x y : Int) : cmpZ y x = -cmpZ x y := by
  unfold cmpZ
  (repeat' split) <;> omega
theorem cmpZ_range (x y : Int) : cmpZ x y = -1 ∨ cmpZ x y = 0 ∨ cmpZ x y = 1 := by
  unfold cmpZ
  (repeat' split) <;> simp
end Go.Proofs.YtiojgdjpigcgaaaGreatDoor.R
end

section
/-! Rf: the law FnKeyStart, with no machine in sight. -/
set_option autoImplicit false
set_option linter.unusedSimpArgs false
set_option linter.unusedVariables false
namespace Go.Proofs.YtiojgdjpigcgaaaGreatDoor.R
open Go.Rf
theorem ba_cut (K : List UInt8) (n : Nat) : ((ba K).extract 0 n).toList = K.take n := by
  rw [Lib.toList_data, ByteArray.data_extract, Array.toList_extract]
  simp [ba]
theorem FnKeyStart : PureFnKeyStart := by
  intro code w
  have w8 : ∀ y ∈ code, 0 ≤ y ∧ y ≤ 255 := fun y hy => u8_of (w.2 y hy)
  have fin : Ev (fun k => F8 k code) ((true, ()), ((), ())) := by
    refine Ev.step 2 (fun k => F8_eq k _) ?_
    by_cases hlen : code.length > 1048576
    · simp only [decide_eq_true (show (code.length : Int) > 1048576 by omega), if_true]
      exact Ev.now _
    simp only [decide_eq_false (show ¬ (code.length : Int) > 1048576 by omega), Bool.false_eq_true, if_false]
    obtain ⟨k1, y1, n1, l1, s1, d1, m1, a1, t1, k2, y2, n2, l2, s2, d2, m2, a2, t2, hl1, ht1, hl2, ht2, hd⟩ := drawOrder_ev code w8
    obtain ⟨K1, _, i1, p1⟩ := KeyPut_both (k0 := k1) (y := y1) (n := n1) (s := s1) (day := d1) (mo := m1) (da := a1) (show l1.length ≤ 1048576 by omega) (show t1.size ≤ 1048576 by omega) false
    obtain ⟨K2, _, i2, _⟩ := KeyPut_both (k0 := k2) (y := y2) (n := n2) (s := s2) (day := d2) (mo := m2) (da := a2) (show l2.length ≤ 1048576 by omega) (show t2.size ≤ 1048576 by omega) false
    refine Ev.bind hd (Ev.bind i1 (Ev.bind i2 (Ev.bind p1 ?_)))
    have e0 : (⟨#[]⟩ : ByteArray).toList = [] := ba_list []
    simp only [beq_self_eq_true, Bool.not_true, Bool.false_eq_true, if_false, ba_list, e0]
    have done : Ev (fun k => (F24 k k1 y1 n1 l1 s1 d1 m1 a1 t1 false).bind fun r6 => some (((K1 == r6.1.1.toList), ()), ((), ()))) ((true, ()), ((), ())) := by
      refine Ev.bind p1 ?_
      simp only [ba_list, beq_self_eq_true]
      exact Ev.now _
    by_cases c1 : K1 = []
    · simp only [beq_iff_eq.2 c1, if_true]
      exact done
    by_cases c2 : K2 = []
    · simp only [beq_eq_false_iff_ne.2 c1, beq_iff_eq.2 c2, Bool.false_eq_true, if_false, if_true]
      exact done
    by_cases c3 : K1 = K2
    · simp only [beq_eq_false_iff_ne.2 c1, beq_eq_false_iff_ne.2 c2, beq_iff_eq.2 c3, Bool.false_eq_true, if_false, if_true]
      exact done
    simp only [beq_eq_false_iff_ne.2 c1, beq_eq_false_iff_ne.2 c2, beq_eq_false_iff_ne.2 c3, Bool.false_eq_true, if_false]
    rcases keyPut_shape (show l1.length ≤ 1048576 by omega) (show t1.size ≤ 1048576 by omega) i1 with h | ⟨q1, B1, S1, f1⟩
    · exact absurd h c1
    rcases keyPut_shape (show l2.length ≤ 1048576 by omega) (show t2.size ≤ 1048576 by omega) i2 with h | ⟨q2, B2, S2, f2⟩
    · exact absurd h c2
    have n12 : ¬ K1 <+: K2 := fun h => c3 (by rw [f1, f2] at h ⊢; exact key_free q1 q2 S1 S2 h)
    have n21 : ¬ K2 <+: K1 := fun h => c3 (by rw [f1, f2] at h ⊢; exact (key_free q2 q1 S2 S1 h).symm)
    have z1 : (ba K1).size = K1.length := rfl
    have z2 : (ba K2).size = K2.length := rfl
    by_cases hs : (ba K1).size > (ba K2).size
    · have g1 : decide (((ba K1).size : Int) > ((ba K2).size : Int)) = true := decide_eq_true (by omega)
      have g2 : decide ((0 : Int) ≤ ((ba K2).size : Int)) = true := decide_eq_true (by omega)
      have g3 : decide (((ba K2).size : Int) ≤ ((ba K1).size : Int)) = true := decide_eq_true (by omega)
      have ne : (K1.take (ba K2).size == K2) = false := beq_eq_false_iff_ne.2 (fun e => n21 (by rw [← e]; exact List.take_prefix _ _))
      simp only [g1, g2, g3, Bool.and_self, if_true, Int.toNat_natCast, ba_cut, ne, Bool.not_false]
      exact Ev.now _
    · have g1 : decide (((ba K1).size : Int) > ((ba K2).size : Int)) = false := decide_eq_false (by omega)
      have g2 : decide ((0 : Int) ≤ ((ba K1).size : Int)) = true := decide_eq_true (by omega)
      have g3 : decide (((ba K1).size : Int) ≤ ((ba K2).size : Int)) = true := decide_eq_true (by omega)
      have ne : (K2.take (ba K1).size == K1) = false := beq_eq_false_iff_ne.2 (fun e => n12 (by rw [← e]; exact List.take_prefix _ _))
      simp only [g1, g2, g3, Bool.and_self, Bool.false_eq_true, if_false, if_true, Int.toNat_natCast, ba_cut, ne, Bool.not_false]
      exact Ev.now _
  obtain ⟨k, hk⟩ := Ev.get fin
  exact ⟨k, _, hk⟩
end Go.Proofs.YtiojgdjpigcgaaaGreatDoor.R
end

section
/-- The row, under a short name, for the claim. -/
theorem Go.Proofs.YtiojgdjpigcgaaaGreatDoor.fnKeyStart_holds : Go.Proofs.YtiojgdjpigcgaaaGreatDoor.Rows.FnKeyStartCardSaid := Go.Proofs.YtiojgdjpigcgaaaGreatDoor.fnKeyStart.card Go.Proofs.YtiojgdjpigcgaaaGreatDoor.R.FnKeyStart
end
