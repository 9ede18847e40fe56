/- A part of the proof that the law FnExactRowOrder answers true for every input: contracts of functions that it reaches, or its plain law. -/
import Derived.Lib.Bytealg
import Derived.Test.YthbibdpbfgoghaaGreatDoorCFnExactRowOrderx0
import Derived.Test.YthbibdpbfgoghaaGreatDoorCFnExactRowOrderx2
import Derived.Test.YthbibdpbfgoghaaGreatDoorCFnExactRowOrderx3
import Derived.Test.YthbibdpbfgoghaaGreatDoorCFnExactRowOrderx4
section
/-! Rf: values: what the laws ask of them; values that fit types. -/
set_option autoImplicit false
set_option linter.unusedSimpArgs false
set_option linter.unusedVariables false
namespace Go.Proofs.YthbibdpbfgoghaaGreatDoor.R
open Go.Rf
def tOk (k dg sc : Int) : Bool := if k = 2 then within dg 1 30 && (within sc 0 12 && decide (sc ≤ dg)) else within k 1 5 && ((dg == 0) && (sc == 0))
/-- a value in order fits a type in order -/
def fits (k : Int) (l : List Int) (s tk dg sc : Int) : Bool := if k = 0 then true else if k ≠ tk then false else if k ≠ 2 then true else (s == sc) && decide (long l ≤ dg)
section
variable (k0 : Int) (y n : Bool) (l : List Int) (s day mo da : Int) (t : ByteArray) (tk dg sc : Int)
theorem vOk_num (h : vOk k0 y n l s day mo da t = true) (h2 : k0 = 2) : decOk n l s = true := by
  unfold vOk bodyOk at h
  rw [if_pos h2] at h
  simp only [Bool.and_eq_true] at h
  exact h.2.2
/-- does a value fit? -/
def vFits : Bool := vOk k0 y n l s day mo da t && (tOk tk dg sc && fits k0 l s tk dg sc)
theorem toValue_ev (hl : l.length ≤ 1048576) : Ev (fun k => F17 k k0 y n l s day mo da t) (((k0, y, n, l, s, day, mo, da, t, ()), ()), (((), (), (), (), (), (), (), (), (), ()), ())) :=
  Ev.step 2 (fun k => F17_eq k _ _ _ _ _ _ _ _ _) (Ev.bind (toDec_ev n l s hl) (Ev.bind (Ev.step 2 (fun k => F31_eq k _ _) (Ev.now _)) (Ev.now _)))
theorem eqValue_ev (hl : l.length ≤ 1048576) : Ev (fun k => F25 k k0 y n l s day mo da t k0 y n l s day mo da t) ((true, ()), (((), (), (), (), (), (), (), (), (), ()), ((), (), (), (), (), (), (), (), (), ()), ())) := by
  have hsp : Ev (fun k => F40 k mo da mo da) ((true, ()), (((), (), ()), ((), (), ()), ())) := by
    refine Ev.step 2 (fun k => F40_eq k _ _ _ _) ?_
    simp only [bne_self_eq_false, Bool.false_eq_true, if_false]
    exact Ev.now _
  refine Ev.step 2 (fun k => F25_eq k _ _ _ _ _ _ _ _ _ _ _ _ _ _ _ _ _ _) ?_
  simp only [bne_self_eq_false, beq_self_eq_true, Bool.not_true, Bool.false_eq_true, if_false]
  refine Ev.bind (eqDec_ev n l s hl) ?_
  simp only [Bool.not_true, Bool.false_eq_true, if_false]
  refine Ev.bind hsp ?_
  simp only [Bool.not_true, Bool.false_eq_true, if_false]
  exact Ev.now _
theorem szValue_ev (hlen : l.length ≤ 9223372036854775807) (htl : t.size ≤ 9223372036854775807) (b : Int) (h0 : 0 ≤ b) (hb : b ≤ 1048576) : ∃ r, Ev (fun k => F13 k k0 y n l s day mo da t b) r ∧ (r.1.1 < 0 ∨ (0 ≤ r.1.1 ∧ r.1.1 ≤ b ∧ l.length ≤ 1048576 ∧ t.size ≤ 1048576)) := by
  obtain ⟨q, g1, g2⟩ := szDec_ev n l s hlen b h0 hb
  rcases g2 with g2 | ⟨g2, g3, g4⟩
  · refine ⟨(((-1 : Int), ()), (((), (), (), (), (), (), (), (), (), ()), (), ())), Ev.step 2 (fun k => F13_eq k _ _ _ _ _ _ _ _ _ _) (Ev.bind g1 ?_), .inl (by show (-1 : Int) < 0; omega)⟩
    simp only [g2, decide_true, if_true]
    exact Ev.now _
  · have e : IntKind.i64.wrap (q.1.1 - (t.size : Int)) = q.1.1 - (t.size : Int) := wrap64 (by omega) (by omega)
    by_cases hn : q.1.1 - (t.size : Int) < 0
    · refine ⟨(((-1 : Int), ()), (((), (), (), (), (), (), (), (), (), ()), (), ())), Ev.step 2 (fun k => F13_eq k _ _ _ _ _ _ _ _ _ _) (Ev.bind g1 ?_), .inl (by show (-1 : Int) < 0; omega)⟩
      simp only [decide_eq_false (show ¬ q.1.1 < 0 by omega), Bool.false_eq_true, if_false, e, decide_eq_true hn, if_true]
      exact Ev.now _
    · refine ⟨((q.1.1 - (t.size : Int), ()), (((), (), (), (), (), (), (), (), (), ()), (), ())), Ev.step 2 (fun k => F13_eq k _ _ _ _ _ _ _ _ _ _) (Ev.bind g1 ?_), .inr ⟨by show 0 ≤ q.1.1 - (t.size : Int); omega, by show q.1.1 - (t.size : Int) ≤ b; omega, g4, by omega⟩⟩
      simp only [decide_eq_false (show ¬ q.1.1 < 0 by omega), Bool.false_eq_true, if_false, e, decide_eq_false hn]
      exact Ev.now _
end
end Go.Proofs.YthbibdpbfgoghaaGreatDoor.R
end

section
/-! Rf: rows of values. -/
set_option autoImplicit false
set_option linter.unusedSimpArgs false
set_option linter.unusedVariables false
namespace Go.Proofs.YthbibdpbfgoghaaGreatDoor.R
open Go.Rf
abbrev Vl := Int × Bool × Bool × (List Int) × Int × Int × Int × Int × ByteArray × Unit
abbrev Ty := Int × Int × Int × Unit
def vE (v : Vl) : Bool := vOk v.1 v.2.1 v.2.2.1 v.2.2.2.1 v.2.2.2.2.1 v.2.2.2.2.2.1 v.2.2.2.2.2.2.1 v.2.2.2.2.2.2.2.1 v.2.2.2.2.2.2.2.2.1
def tE (t : Ty) : Bool := tOk t.1 t.2.1 t.2.2.1
def fE (v : Vl) (t : Ty) : Bool := fits v.1 v.2.2.2.1 v.2.2.2.2.1 t.1 t.2.1 t.2.2.1
def wE (v : Vl) (t : Ty) : Bool := vFits v.1 v.2.1 v.2.2.1 v.2.2.2.1 v.2.2.2.2.1 v.2.2.2.2.2.1 v.2.2.2.2.2.2.1 v.2.2.2.2.2.2.2.1 v.2.2.2.2.2.2.2.2.1 t.1 t.2.1 t.2.2.1
theorem wE_eq (v : Vl) (t : Ty) : wE v t = (vE v && (tE t && fE v t)) := rfl
def szOk (v : Vl) : Prop := v.2.2.2.1.length ≤ 1048576 ∧ v.2.2.2.2.2.2.2.2.1.size ≤ 1048576
def v0 : Vl := (0, false, false, [], 0, 0, 0, 0, ByteArray.empty, ())
def t0 : Ty := (0, 0, 0, ())
theorem atD {α : Type} {l : List α} {d : α} {i : Nat} (h : i < l.length) : l[i]? = some (l.getD i d) := by
  rw [List.getD_eq_getElem?_getD, List.getElem?_eq_getElem h]; rfl
theorem szD {vs : List Vl} (h : ∀ v ∈ vs, szOk v) {i : Nat} (hi : i < vs.length) : szOk (vs.getD i v0) := h _ (List.mem_of_getElem? (atD hi))
theorem szValueS_ev (vs : List Vl) (hw : wfT (.sl (.pair (.int .i64) (.pair .bool (.pair .bool (.pair (.sl (.int .i64)) (.pair (.int .i64) (.pair (.int .i64) (.pair (.int .i64) (.pair (.int .i64) (.pair .str .unit)))))))))) vs) (b : Int) (h0 : 0 ≤ b) (hb : b ≤ 1048576) :
    ∃ r, Ev (fun k => F4 k vs b) r ∧ (r.1.1 < 0 ∨ (0 ≤ r.1.1 ∧ r.1.1 ≤ b ∧ vs.length ≤ 1048576 ∧ ∀ v ∈ vs, szOk v)) := by
  have hlen : vs.length ≤ 9223372036854775807 := hw.1
  have e : IntKind.i64.wrap (b - (vs.length : Int)) = b - (vs.length : Int) := wrap64 (by omega) (by omega)
  by_cases hn : b - (vs.length : Int) < 0
  · refine ⟨(((-1 : Int), ()), ((), (), ())), Ev.step 2 (fun k => F4_eq k _ _) ?_, .inl (by show (-1 : Int) < 0; omega)⟩
    simp only [e, decide_eq_true hn, if_true]
    exact Ev.now _
  · obtain ⟨r, h1, h2⟩ := size_loop (L := fun k x i => F4c5 k vs x i) (x0 := vs) (g := fun k (v : Vl) x => F13 k v.1 v.2.1 v.2.2.1 v.2.2.2.1 v.2.2.2.2.1 v.2.2.2.2.2.1 v.2.2.2.2.2.2.1 v.2.2.2.2.2.2.2.1 v.2.2.2.2.2.2.2.2.1 x) (p := fun r => r.1.1) (no := (((-1 : Int), ()), ((), (), ()))) (fin := fun x => ((x, ()), ((), (), ()))) (Q := szOk) hlen (B := 1048576)
      (fun k x i => F4c5_eq k _ _ _) (fun v hv x hx0 hxB => by
        have hwv := hw.2 v hv
        obtain ⟨r, h1, h2⟩ := szValue_ev v.1 v.2.1 v.2.2.1 v.2.2.2.1 v.2.2.2.2.1 v.2.2.2.2.2.1 v.2.2.2.2.2.2.1 v.2.2.2.2.2.2.2.1 v.2.2.2.2.2.2.2.2.1 hwv.2.2.2.1.1 hwv.2.2.2.2.2.2.2.2.1 x hx0 hxB
        refine ⟨r, h1, ?_⟩
        rcases h2 with h2 | ⟨h2, h3, h4, h5⟩
        · exact .inl h2
        · exact .inr ⟨h2, h3, h4, h5⟩) (b - vs.length) (by omega) (by omega)
    refine ⟨r, Ev.step 2 (fun k => F4_eq k _ _) ?_, ?_⟩
    · simp only [e, decide_eq_false hn, Bool.false_eq_true, if_false]
      exact h1
    · rcases h2 with rfl | ⟨x, rfl, h3, h4, h5⟩
      · exact .inl (by show (-1 : Int) < 0; omega)
      · exact .inr ⟨h3, by show x ≤ b; omega, by omega, h5⟩
theorem toValueS_ev (vs : List Vl) (hl : vs.length ≤ 1048576) (hs : ∀ v ∈ vs, szOk v) : Ev (fun k => F6 k vs) ((vs, ()), ((), ())) := by
  have h1 := copy_loop (L := fun k x i => F6c3 k vs x i) (x0 := vs) (g := fun k (v : Vl) => F17 k v.1 v.2.1 v.2.2.1 v.2.2.2.1 v.2.2.2.2.1 v.2.2.2.2.2.1 v.2.2.2.2.2.2.1 v.2.2.2.2.2.2.2.1 v.2.2.2.2.2.2.2.2.1) (f := fun r => (r.1.1.1, (r.1.1.2.1, (r.1.1.2.2.1, (r.1.1.2.2.2.1, (r.1.1.2.2.2.2.1, (r.1.1.2.2.2.2.2.1, (r.1.1.2.2.2.2.2.2.1, (r.1.1.2.2.2.2.2.2.2.1, (r.1.1.2.2.2.2.2.2.2.2.1, ())))))))))) (fin := fun x => ((x, ()), ((), ()))) (h := fun v => ((v, ()), (((), (), (), (), (), (), (), (), (), ()), ()))) (by omega)
    (fun k x i => F6c3_eq k _ _ _) (fun v hv => toValue_ev v.1 v.2.1 v.2.2.1 v.2.2.2.1 v.2.2.2.2.1 v.2.2.2.2.2.1 v.2.2.2.2.2.2.1 v.2.2.2.2.2.2.2.1 v.2.2.2.2.2.2.2.2.1 (hs v hv).1) (List.replicate vs.length v0) (by simp)
  refine Ev.step 2 (fun k => F6_eq k _) ?_
  simp only [ge0, decide_eq_true (Int.le_refl (vs.length : Int)), decide_eq_true (show (vs.length : Int) ≤ 1466015503701 by omega), Bool.and_self, if_true, Int.toNat_natCast]
  have e : (vs.map fun (v : Vl) => (v.1, (v.2.1, (v.2.2.1, (v.2.2.2.1, (v.2.2.2.2.1, (v.2.2.2.2.2.1, (v.2.2.2.2.2.2.1, (v.2.2.2.2.2.2.2.1, (v.2.2.2.2.2.2.2.2.1, ())))))))))) = vs := by
    conv => rhs; rw [← List.map_id vs]
    rfl
  have h1 : Ev (fun k => F6c3 k vs (List.replicate vs.length v0) 0) (((vs.map fun (v : Vl) => (v.1, (v.2.1, (v.2.2.1, (v.2.2.2.1, (v.2.2.2.2.1, (v.2.2.2.2.2.1, (v.2.2.2.2.2.2.1, (v.2.2.2.2.2.2.2.1, (v.2.2.2.2.2.2.2.2.1, ())))))))))), ()), ((), ())) := h1
  rw [e] at h1
  exact h1
theorem eqValueS_ev (vs : List Vl) (hl : vs.length ≤ 1048576) (hs : ∀ v ∈ vs, szOk v) : Ev (fun k => F10 k vs vs) ((true, ()), ((), (), ())) := by
  refine Ev.step 2 (fun k => F10_eq k _ _) ?_
  simp only [bne_self_eq_false, Bool.false_eq_true, if_false]
  exact same_loop (L := fun k i => F10c4 k vs vs i) (x0 := vs) (g := fun k (y1 y2 : Vl) => F25 k y1.1 y1.2.1 y1.2.2.1 y1.2.2.2.1 y1.2.2.2.2.1 y1.2.2.2.2.2.1 y1.2.2.2.2.2.2.1 y1.2.2.2.2.2.2.2.1 y1.2.2.2.2.2.2.2.2.1 y2.1 y2.2.1 y2.2.2.1 y2.2.2.2.1 y2.2.2.2.2.1 y2.2.2.2.2.2.1 y2.2.2.2.2.2.2.1 y2.2.2.2.2.2.2.2.1 y2.2.2.2.2.2.2.2.2.1) (p := fun r => r.1.1) (no := ((false, ()), ((), (), ()))) (h := fun _ => ((true, ()), (((), (), (), (), (), (), (), (), (), ()), ((), (), (), (), (), (), (), (), (), ()), ()))) (by omega)
    (fun k i => F10c4_eq k _ _ _) (fun v hv => ⟨eqValue_ev v.1 v.2.1 v.2.2.1 v.2.2.2.1 v.2.2.2.2.1 v.2.2.2.2.2.1 v.2.2.2.2.2.2.1 v.2.2.2.2.2.2.2.1 v.2.2.2.2.2.2.2.2.1 (hs v hv).1, rfl⟩)
end Go.Proofs.YthbibdpbfgoghaaGreatDoor.R
end

section
/-! Rf: how values compare. -/
set_option autoImplicit false
set_option linter.unusedSimpArgs false
set_option linter.unusedVariables false
namespace Go.Proofs.YthbibdpbfgoghaaGreatDoor.R
open Go.Rf
def zc (x y : Int) : Int := if x < y then -1 else if x > y then 1 else 0
theorem l4Int_ev (x y : Int) : Ev (fun k => F47 k x y) ((zc x y, ()), ((), (), ())) := by
  refine Ev.step 2 (fun k => F47_eq k _ _) ?_
  unfold zc
  by_cases h : x < y
  · simp only [h, decide_true, if_true]; exact Ev.now _
  by_cases h2 : x > y
  · simp only [h, h2, decide_false, decide_true, Bool.false_eq_true, if_false, if_true]; exact Ev.now _
  · simp only [h, h2, decide_false, Bool.false_eq_true, if_false]; exact Ev.now _
theorem cmpInt_ev (x y : Int) : Ev (fun k => F52 k x y) ((zc x y, ()), ((), (), ())) := by
  have e : ∀ x : Int, Ev (fun k => F64 k x) ((false, ()), ((), ())) := fun x => by
    refine Ev.step 2 (fun k => F64_eq k _) ?_
    simp only [bne_self_eq_false]
    exact Ev.now _
  refine Ev.step 2 (fun k => F52_eq k _ _) (Ev.bind (e x) (Ev.bind (e y) ?_))
  unfold zc
  simp only [Bool.false_eq_true, if_false]
  by_cases h : x < y
  · simp only [h, decide_true, if_true]; exact Ev.now _
  by_cases h2 : x > y
  · simp only [h, h2, decide_false, decide_true, Bool.false_eq_true, if_false, if_true]; exact Ev.now _
  · simp only [h, h2, decide_false, Bool.false_eq_true, if_false]; exact Ev.now _
theorem or_ev (x y : Int) : Ev (fun k => F67 k [x, y]) (((if x = 0 then y else x), ()), ((), ())) := by
  refine Ev.step 2 (fun k => F67_eq k _) (Ev.step 1 (fun k => F67c3_eq k _ _ _ _) ?_)
  have n0 : (decide ((0 : Int) < (([x, y] : List Int).length : Int))) = true := rfl
  have z0 : (decide ((0 : Int) ≤ 0)) = true := by decide
  simp only [n0, z0, if_true, show ([x, y] : List Int)[(0 : Int).toNat]? = some x from rfl, Option.bind_some]
  by_cases h : x = 0
  · simp only [h, bne_self_eq_false, Bool.false_eq_true, if_false, if_true]
    refine Ev.step 1 (fun k => F67c3_eq k _ _ _ _) ?_
    have w1 : IntKind.i64.wrap ((0 : Int) + 1) = 1 := by decide
    have n1 : (decide ((1 : Int) < (([0, y] : List Int).length : Int))) = true := rfl
    have z1 : (decide ((0 : Int) ≤ 1)) = true := by decide
    simp only [w1, n1, z1, if_true, show ([0, y] : List Int)[(1 : Int).toNat]? = some y from rfl, Option.bind_some]
    by_cases h2 : y = 0
    · simp only [h2, bne_self_eq_false, Bool.false_eq_true, if_false]
      refine Ev.step 1 (fun k => F67c3_eq k _ _ _ _) ?_
      have w2 : IntKind.i64.wrap ((1 : Int) + 1) = 2 := by decide
      have n2 : (decide ((2 : Int) < (([0, 0] : List Int).length : Int))) = false := by decide
      simp only [w2, n2, Bool.false_eq_true, if_false]
      exact Ev.now _
    · simp only [bne_iff_ne.2 h2, if_true]
      exact Ev.now _
  · simp only [bne_iff_ne.2 h, if_true, h, if_false]
    exact Ev.now _
/-! ### texts -/
def tc (a b : ByteArray) : Int := Lib.compareBytes a.data.toList b.data.toList
theorem less_cmp : ∀ (a b : List UInt8), (Op.bytesLess a b = true ↔ Lib.compareBytes a b = -1) ∧ ((Lib.compareBytes a b = 0) ↔ a = b) ∧ (Lib.compareBytes a b = -1 ∨ Lib.compareBytes a b = 0 ∨ Lib.compareBytes a b = 1)
  | [], [] => by simp [Op.bytesLess, Lib.compareBytes]
  | [], _ :: _ => by simp [Op.bytesLess, Lib.compareBytes]
  | _ :: _, [] => by simp [Op.bytesLess, Lib.compareBytes]
  | x :: a, y :: b => by
    obtain ⟨h1, h2, h3⟩ := less_cmp a b
    unfold Op.bytesLess Lib.compareBytes
    by_cases hxy : x = y
    · subst hxy
      have hlt : ¬ x < x := UInt8.lt_irrefl x
      simp only [hlt, decide_false, beq_self_eq_true, Bool.false_or, Bool.true_and, if_false, List.cons.injEq, true_and]
      exact ⟨h1, h2, h3⟩
    · by_cases hlt : x < y
      · simp [hlt, hxy]
      · have hgt : y < x := UInt8.lt_of_le_of_ne (UInt8.not_lt.1 hlt) (Ne.symm hxy)
        simp [hlt, hgt, hxy]
theorem l4Str_ev (a b : ByteArray) : Ev (fun k => F61 k a b) ((tc a b, ()), ((), (), ())) := by
  obtain ⟨h1, h2, h3⟩ := less_cmp a.data.toList b.data.toList
  refine Ev.step 2 (fun k => F61_eq k _ _) ?_
  rw [Lib.toList_data, Lib.toList_data]
  unfold tc
  cases hl : Op.bytesLess a.data.toList b.data.toList with
  | true =>
    rw [h1.1 hl]
    simp only [if_true]
    exact Ev.now _
  | false =>
    have n1 : Lib.compareBytes a.data.toList b.data.toList ≠ -1 := fun h => by rw [h1.2 h] at hl; cases hl
    by_cases he : a.data.toList = b.data.toList
    · rw [h2.2 he]
      simp only [he, beq_self_eq_true, Bool.or_true, Bool.not_true, Bool.false_eq_true, if_false]
      exact Ev.now _
    · have n0 : Lib.compareBytes a.data.toList b.data.toList ≠ 0 := fun h => he (h2.1 h)
      have e1 : Lib.compareBytes a.data.toList b.data.toList = 1 := by rcases h3 with h | h | h; exact absurd h n1; exact absurd h n0; exact h
      rw [e1]
      simp only [beq_eq_false_iff_ne.2 he, Bool.or_false, Bool.not_false, Bool.false_eq_true, if_false, if_true]
      exact Ev.now _
theorem compare_ev (a b : ByteArray) : Ev (fun k => F68 k a b) ((tc a b, ()), ((), (), ())) :=
  Ev.step 1 (fun k => F68_eq k a b) (Ev.now _)
/-! ### values -/
def bit (b : Bool) : Int := if b then 1 else 0
theorem l4Bit_ev (b : Bool) : Ev (fun k => F59 k b) ((bit b, ()), ((), ())) := by
  refine Ev.step 2 (fun k => F59_eq k _) ?_
  unfold bit
  cases b
  · simp only [Bool.false_eq_true, if_false]; exact Ev.now _
  · simp only [if_true]; exact Ev.now _
theorem truth_ev (b : Bool) : Ev (fun k => F65 k b) ((bit b, ()), ((), ())) := by
  refine Ev.step 2 (fun k => F65_eq k _) ?_
  unfold bit
  cases b
  · simp only [Bool.false_eq_true, if_false]; exact Ev.now _
  · simp only [if_true]; exact Ev.now _
theorem bit_sub (b c : Bool) : IntKind.i64.wrap (bit b - bit c) = zc (bit b) (bit c) := by cases b <;> cases c <;> decide
/-- how two values of one kind compare -/
def vc (k0 : Int) (y1 n1 : Bool) (l1 : List Int) (s1 d1 m1 a1 : Int) (t1 : ByteArray) (y2 n2 : Bool) (l2 : List Int) (s2 d2 m2 a2 : Int) (t2 : ByteArray) : Int :=
  if k0 = 1 then zc (bit y1) (bit y2) else if k0 = 2 then dCmp n1 l1 s1.toNat n2 l2 s2.toNat else if k0 = 3 then zc d1 d2 else if k0 = 4 then (if m1 = m2 then zc a1 a2 else zc m1 m2) else tc t1 t2
def vo (k1 : Int) (y1 n1 : Bool) (l1 : List Int) (s1 d1 m1 a1 : Int) (t1 : ByteArray) (k2 : Int) (y2 n2 : Bool) (l2 : List Int) (s2 d2 m2 a2 : Int) (t2 : ByteArray) : Int :=
  if k1 = k2 then vc k1 y1 n1 l1 s1 d1 m1 a1 t1 y2 n2 l2 s2 d2 m2 a2 t2 else zc k1 k2
theorem zc_zero {x y : Int} : zc x y = 0 ↔ x = y := by
  unfold zc
  split
  · constructor <;> intro h <;> omega
  · split <;> constructor <;> intro h <;> omega
section
variable (k0 : Int) (y1 n1 : Bool) (l1 : List Int) (s1 d1 m1 a1 : Int) (t1 : ByteArray) (y2 n2 : Bool) (l2 : List Int) (s2 d2 m2 a2 : Int) (t2 : ByteArray)
theorem vOk_kind {k0 : Int} {y n : Bool} {l : List Int} {s day mo da : Int} {t : ByteArray} (h : vOk k0 y n l s day mo da t = true) : 0 ≤ k0 ∧ k0 ≤ 5 := by
  unfold vOk within at h
  simp only [Bool.and_eq_true, decide_eq_true_iff] at h
  exact ⟨h.1.1, h.1.2⟩
theorem noText_nil {t : ByteArray} (h : noText t = true) : t.data.toList = [] := by
  have h1 := eq_of_beq h
  rw [Lib.toList_data, Lib.toList_data] at h1
  exact h1
theorem vOk_noText {k0 : Int} {y n : Bool} {l : List Int} {s day mo da : Int} {t : ByteArray} (h : vOk k0 y n l s day mo da t = true) (h5 : k0 ≠ 5) : t.data.toList = [] := by
  unfold vOk bareOk at h
  rw [beq_eq_false_iff_ne.2 h5] at h
  simp only [Bool.and_eq_true, Bool.false_or] at h
  exact noText_nil h.2.1.2.2.2.2
theorem l4Cmp_ev (h1 : vOk k0 y1 n1 l1 s1 d1 m1 a1 t1 = true) (h2 : vOk k0 y2 n2 l2 s2 d2 m2 a2 t2 = true) : Ev (fun k => F48 k k0 y1 n1 l1 s1 d1 m1 a1 t1 k0 y2 n2 l2 s2 d2 m2 a2 t2) ((vc k0 y1 n1 l1 s1 d1 m1 a1 t1 y2 n2 l2 s2 d2 m2 a2 t2, ()), (((), (), (), (), (), (), (), (), (), ()), ((), (), (), (), (), (), (), (), (), ()), ())) := by
  refine Ev.step 2 (fun k => F48_eq k _ _ _ _ _ _ _ _ _ _ _ _ _ _ _ _ _ _) ?_
  unfold vc
  by_cases g1 : k0 = 1
  · simp only [g1, beq_self_eq_true, if_true]
    exact Ev.bind (l4Bit_ev _) (Ev.bind (l4Bit_ev _) (Ev.bind (l4Int_ev _ _) (Ev.now _)))
  simp only [g1, beq_eq_false_iff_ne.2 g1, Bool.false_eq_true, if_false]
  by_cases g2 : k0 = 2
  · obtain ⟨b1, _, u1, rfl, hu1⟩ := decOk_of (vOk_num _ _ _ _ _ _ _ _ _ h1 g2)
    obtain ⟨b2, _, u2, rfl, hu2⟩ := decOk_of (vOk_num _ _ _ _ _ _ _ _ _ h2 g2)
    simp only [g2, beq_self_eq_true, if_true, Int.toNat_natCast]
    exact Ev.bind (l2Cmp_ev b1 b2 hu1 hu2) (Ev.now _)
  simp only [g2, beq_eq_false_iff_ne.2 g2, Bool.false_eq_true, if_false]
  by_cases g3 : k0 = 3
  · simp only [g3, beq_self_eq_true, if_true]
    exact Ev.bind (l4Int_ev _ _) (Ev.now _)
  simp only [g3, beq_eq_false_iff_ne.2 g3, Bool.false_eq_true, if_false]
  by_cases g4 : k0 = 4
  · simp only [g4, beq_self_eq_true, if_true]
    by_cases hm : m1 = m2
    · simp only [hm, bne_self_eq_false, Bool.false_eq_true, if_false, if_true]
      exact Ev.bind (l4Int_ev _ _) (Ev.now _)
    · simp only [bne_iff_ne.2 hm, if_true, hm, if_false]
      exact Ev.bind (l4Int_ev _ _) (Ev.now _)
  simp only [g4, beq_eq_false_iff_ne.2 g4, Bool.false_eq_true, if_false]
  exact Ev.bind (l4Str_ev _ _) (Ev.now _)
theorem vcmp_ev (h1 : vOk k0 y1 n1 l1 s1 d1 m1 a1 t1 = true) (h2 : vOk k0 y2 n2 l2 s2 d2 m2 a2 t2 = true) : Ev (fun k => F53 k k0 y1 n1 l1 s1 d1 m1 a1 t1 k0 y2 n2 l2 s2 d2 m2 a2 t2) ((vc k0 y1 n1 l1 s1 d1 m1 a1 t1 y2 n2 l2 s2 d2 m2 a2 t2, ()), (((), (), (), (), (), (), (), (), (), ()), ((), (), (), (), (), (), (), (), (), ()), ())) := by
  refine Ev.step 2 (fun k => F53_eq k _ _ _ _ _ _ _ _ _ _ _ _ _ _ _ _ _ _) ?_
  unfold vc
  by_cases g1 : k0 = 1
  · simp only [g1, beq_self_eq_true, if_true]
    refine Ev.bind (truth_ev _) (Ev.bind (truth_ev _) ?_)
    simp only [bit_sub]
    exact Ev.now _
  simp only [g1, beq_eq_false_iff_ne.2 g1, Bool.false_eq_true, if_false]
  by_cases g2 : k0 = 2
  · obtain ⟨b1, _, u1, rfl, hu1⟩ := decOk_of (vOk_num _ _ _ _ _ _ _ _ _ h1 g2)
    obtain ⟨b2, _, u2, rfl, hu2⟩ := decOk_of (vOk_num _ _ _ _ _ _ _ _ _ h2 g2)
    simp only [g2, beq_self_eq_true, if_true, Int.toNat_natCast]
    exact Ev.bind (cmpD_ev b1 b2 hu1 hu2) (Ev.now _)
  simp only [g2, beq_eq_false_iff_ne.2 g2, Bool.false_eq_true, if_false]
  by_cases g3 : k0 = 3
  · simp only [g3, beq_self_eq_true, if_true]
    exact Ev.bind (cmpInt_ev _ _) (Ev.now _)
  simp only [g3, beq_eq_false_iff_ne.2 g3, Bool.false_eq_true, if_false]
  by_cases g4 : k0 = 4
  · simp only [g4, beq_self_eq_true, if_true]
    refine Ev.bind (cmpInt_ev _ _) (Ev.bind (cmpInt_ev _ _) (Ev.bind (or_ev _ _) ?_))
    by_cases hm : m1 = m2
    · subst hm
      simp only [zc_zero.2 rfl, if_true]
      exact Ev.now _
    · have : zc m1 m2 ≠ 0 := fun h => hm (zc_zero.1 h)
      simp only [this, hm, if_false]
      exact Ev.now _
  simp only [g4, beq_eq_false_iff_ne.2 g4, Bool.false_eq_true, if_false]
  by_cases g5 : k0 = 5
  · simp only [g5, beq_self_eq_true, if_true]
    exact Ev.bind (compare_ev _ _) (Ev.now _)
  · have e : tc t1 t2 = 0 := by
      unfold tc
      rw [vOk_noText h1 g5, vOk_noText h2 g5]
      rfl
    simp only [beq_eq_false_iff_ne.2 g5, Bool.false_eq_true, if_false, e]
    exact Ev.now _
end
section
variable (k1 : Int) (y1 n1 : Bool) (l1 : List Int) (s1 d1 m1 a1 : Int) (t1 : ByteArray) (k2 : Int) (y2 n2 : Bool) (l2 : List Int) (s2 d2 m2 a2 : Int) (t2 : ByteArray)
theorem l4Order_ev (h1 : vOk k1 y1 n1 l1 s1 d1 m1 a1 t1 = true) (h2 : vOk k2 y2 n2 l2 s2 d2 m2 a2 t2 = true) : Ev (fun k => F29 k k1 y1 n1 l1 s1 d1 m1 a1 t1 k2 y2 n2 l2 s2 d2 m2 a2 t2) ((vo k1 y1 n1 l1 s1 d1 m1 a1 t1 k2 y2 n2 l2 s2 d2 m2 a2 t2, ()), (((), (), (), (), (), (), (), (), (), ()), ((), (), (), (), (), (), (), (), (), ()), ())) := by
  refine Ev.step 2 (fun k => F29_eq k _ _ _ _ _ _ _ _ _ _ _ _ _ _ _ _ _ _) ?_
  unfold vo
  by_cases h : k1 = k2
  · subst h
    simp only [bne_self_eq_false, Bool.false_eq_true, if_false, if_true]
    exact Ev.bind (l4Cmp_ev _ _ _ _ _ _ _ _ _ _ _ _ _ _ _ _ _ h1 h2) (Ev.now _)
  · simp only [bne_iff_ne.2 h, if_true, h, if_false]
    exact Ev.bind (l4Int_ev _ _) (Ev.now _)
theorem order_ev (h1 : vOk k1 y1 n1 l1 s1 d1 m1 a1 t1 = true) (h2 : vOk k2 y2 n2 l2 s2 d2 m2 a2 t2 = true) : Ev (fun k => F38 k k1 y1 n1 l1 s1 d1 m1 a1 t1 k2 y2 n2 l2 s2 d2 m2 a2 t2) ((vo k1 y1 n1 l1 s1 d1 m1 a1 t1 k2 y2 n2 l2 s2 d2 m2 a2 t2, ()), (((), (), (), (), (), (), (), (), (), ()), ((), (), (), (), (), (), (), (), (), ()), ())) := by
  refine Ev.step 2 (fun k => F38_eq k _ _ _ _ _ _ _ _ _ _ _ _ _ _ _ _ _ _) ?_
  unfold vo
  by_cases h : k1 = k2
  · subst h
    simp only [bne_self_eq_false, Bool.false_eq_true, if_false, if_true]
    exact Ev.bind (vcmp_ev _ _ _ _ _ _ _ _ _ _ _ _ _ _ _ _ _ h1 h2) (Ev.now _)
  · simp only [bne_iff_ne.2 h, if_true, h, if_false]
    exact Ev.bind (cmpInt_ev _ _) (Ev.now _)
/-- what ValueOrder hands back -/
def vOrd : Int := if vOk k1 y1 n1 l1 s1 d1 m1 a1 t1 && vOk k2 y2 n2 l2 s2 d2 m2 a2 t2 then vo k1 y1 n1 l1 s1 d1 m1 a1 t1 k2 y2 n2 l2 s2 d2 m2 a2 t2 else 2
/-- can ValueCmp tell? -/
def vCan : Bool := vOk k1 y1 n1 l1 s1 d1 m1 a1 t1 && vOk k2 y2 n2 l2 s2 d2 m2 a2 t2 && (k1 != 0 && k1 == k2)
def vCmp : Int := if vCan k1 y1 n1 l1 s1 d1 m1 a1 t1 k2 y2 n2 l2 s2 d2 m2 a2 t2 then vc k1 y1 n1 l1 s1 d1 m1 a1 t1 y2 n2 l2 s2 d2 m2 a2 t2 else 0
variable (z1 : l1.length ≤ 1048576) (x1 : t1.size ≤ 1048576) (z2 : l2.length ≤ 1048576) (x2 : t2.size ≤ 1048576)
include z1 x1 z2 x2
end
end Go.Proofs.YthbibdpbfgoghaaGreatDoor.R
end

section
/-! Rf, decimals: added; fresh memory. -/
set_option autoImplicit false
set_option linter.unusedSimpArgs false
namespace Go.Proofs.YthbibdpbfgoghaaGreatDoor.R
open Go.Rf
theorem VI_take_succ' {l : List Int} {i : Nat} : VI (l.take (i + 1)) = VI (l.take i) + l.getD i 0 * 10000 ^ i := by
  rcases Nat.lt_or_ge i l.length with h | h
  · exact VI_take_succ h
  · rw [List.take_of_length_le h, List.take_of_length_le (by omega), List.getD_eq_getElem?_getD, List.getElem?_eq_none h]
    simp
theorem getD0 {l : List Int} (h : InR l) (i : Nat) : 0 ≤ l.getD i 0 ∧ l.getD i 0 ≤ 9999 := by
  rcases Nat.lt_or_ge i l.length with h1 | h1
  · exact h.at h1
  · rw [List.getD_eq_getElem?_getD, List.getElem?_eq_none h1]
    exact ⟨Int.le_refl _, by decide⟩
theorem inrSnoc {l : List Int} {d : Int} (h : InR l) (hd : 0 ≤ d ∧ d ≤ 9999) : InR (l ++ [d]) := fun x hx => by
  rcases List.mem_append.1 hx with hx | hx
  · exact h x hx
  · rw [List.mem_singleton.1 hx]
    exact hd
theorem VI_snoc (l : List Int) (d : Int) : VI (l ++ [d]) = VI l + d * 10000 ^ l.length := by
  rw [VI_append]
  show VI l + 10000 ^ l.length * (d + 10000 * 0) = _
  grind
section
variable {a b : List Int}
end
def made (neg : Bool) (n : Nat) (s : Int) : (Bool × List Int × Int × Unit) × Int × Unit := if long (digs n) > 30 then ((false, [], 0, ()), 3, ()) else ((neg && decide (((digs n).length : Int) > 0), digs n, s, ()), 0, ())
theorem figs_ge : ∀ {l : List Int}, InR l → l ≠ [] → 4 * l.length ≤ (figs l).length + 4
  | [], _, h => absurd rfl h
  | [d], _, _ => by simp
  | d :: e :: l, h, _ => by
    have h1 := figs_ge h.cons.2 (by simp)
    have h2 := fig4_len h.cons.1
    rw [figs, List.length_append, h2, List.length_cons]
    omega
theorem long_small {l : List Int} (h : InR l) (hl : ¬ long l > 30) : l.length ≤ 16 := by
  unfold long at hl
  by_cases h0 : l.length = 0
  · omega
  · rw [if_neg h0, textL_pos (fun e => h0 (by rw [e]; rfl)), bytes_size] at hl
    have := figs_ge h (fun e => h0 (by rw [e]; rfl))
    omega
theorem sSum_lt {na nb : Bool} {A B C : Nat} (ha : A < C) (hb : B < C) : (sSum na A nb B).2 < 2 * C := by
  unfold sSum
  split
  · show A + B < _
    omega
  · split
    · show A - B < _
      omega
    · show B - A < _
      omega
theorem at_lt {V m : Nat} (hV : V < 10000 ^ 16) (hm : m ≤ 24) : V * 10 ^ m < 10000 ^ 40 := by
  have h1 : 10 ^ m ≤ 10 ^ 24 := Nat.pow_le_pow_right (by omega) hm
  have h2 : V * 10 ^ m ≤ V * 10 ^ 24 := Nat.mul_le_mul_left V h1
  have h3 : V * 10 ^ 24 < 10000 ^ 16 * 10 ^ 24 := Nat.mul_lt_mul_of_pos_right hV (Nat.pow_pos (by omega))
  have h4 : 10000 ^ 16 * 10 ^ 24 ≤ 10000 ^ 40 := by decide
  omega
theorem sum_len {na nb : Bool} {A B : Nat} (ha : A < 10000 ^ 40) (hb : B < 10000 ^ 40) : (digs (sSum na A nb B).2).length ≤ 41 := by
  refine digs_len_le ?_
  have h1 := sSum_lt (na := na) (nb := nb) ha hb
  have h2 : 2 * 10000 ^ 40 ≤ 10000 ^ 41 := by
    rw [Nat.pow_succ]
    have : 0 < 10000 ^ 40 := Nat.pow_pos (by omega)
    omega
  omega
section
variable {n1 n2 : Bool} {l1 l2 : List Int} {s1 s2 : Nat}
end
/-! ### marks -/
def marks (b : Int) (l : List Int) : List Int := (List.range l.length).map fun (i : Nat) => b + (i : Int)
theorem marks_len (b : Int) (l : List Int) : (marks b l).length = l.length := by simp [marks]
theorem marks_at {b : Int} {l : List Int} {i : Nat} (h : i < l.length) : (marks b l).getD i 0 = b + i := by
  rw [List.getD_eq_getElem?_getD]
  unfold marks
  rw [List.getElem?_map, List.getElem?_range h]
  rfl
end Go.Proofs.YthbibdpbfgoghaaGreatDoor.R
end

section
/-! Rf: division of limbs: both divisions come to the quotient and the rest. -/
set_option autoImplicit false
set_option linter.unusedSimpArgs false
set_option linter.unusedVariables false
namespace Go.Proofs.YthbibdpbfgoghaaGreatDoor.R
open Go.Rf
theorem u64_small {x : Int} (h0 : 0 ≤ x) (h1 : x ≤ 9999) : IntKind.u64.wrap x = x := by
  unfold IntKind.wrap
  simp [IntKind.bits, IntKind.signed]
  omega
theorem mid_eq {lo hi : Nat} (h : hi ≤ 10000) (hl : lo ≤ 10000) : IntKind.i64.wrap ((IntKind.i64.wrap ((IntKind.i64.wrap ((lo : Int) + (hi : Int))) + (1 : Int))).tdiv (2 : Int)) = (((lo + hi + 1) / 2 : Nat) : Int) := by
  rw [wrap64 (n := (lo : Int) + (hi : Int)) (by omega) (by omega), wrap64 (n := (lo : Int) + (hi : Int) + 1) (by omega) (by omega), Int.tdiv_eq_ediv_of_nonneg (by omega), wrap64 (by omega) (by omega)]
  omega
theorem mid_eq0 {lo hi : Nat} (h : hi ≤ 10000) (hl : lo ≤ 10000) : IntKind.i64.wrap ((IntKind.i64.wrap ((lo : Int) + (hi : Int))).tdiv (2 : Int)) = (((lo + hi) / 2 : Nat) : Int) := by
  rw [wrap64 (n := (lo : Int) + (hi : Int)) (by omega) (by omega), Int.tdiv_eq_ediv_of_nonneg (by omega), wrap64 (by omega) (by omega)]
  omega
theorem digs_InR (n : Nat) : InR (digs n) := (digs_spec n).1
theorem digs_Trim (n : Nat) : Trim (digs n) := (digs_spec n).2.1
theorem InR.one {d : Int} (h : 0 ≤ d ∧ d ≤ 9999) : InR [d] := InR.mk h InR.nil
theorem VI_one (d : Int) : VI [d] = d := by
  show d + 10000 * 0 = d
  omega
theorem cmpI_le {a b : Nat} : decide (cmpI a b ≤ 0) = decide (a ≤ b) := by
  unfold cmpI
  split
  · rw [decide_eq_true (by omega), decide_eq_true (by omega)]
  · split
    · rw [decide_eq_true (by omega), decide_eq_true (by omega)]
    · rw [decide_eq_false (by omega), decide_eq_false (by omega)]
section
variable {b : List Int} {B X : Nat}
theorem mulN (hb : InR b) (lb : b.length ≤ 1000) (hB : VI b = (B : Int)) {n : Nat} (hn : n ≤ 9999) : Ev (fun k => F96 k b (digs n)) ((digs (B * n), ()), ((), (), ())) := by
  have := mul_ev hb (digs_InR n) (by omega) (Nat.le_trans (digs_len_le (m := 1) (by omega)) (by omega))
  rw [hB, VI_digs, show ((B : Int) * (n : Int)).toNat = B * n by rw [← Int.natCast_mul]; rfl] at this
  exact this
theorem l1MulN (hb : InR b) (lb : b.length ≤ 1000) (hB : VI b = (B : Int)) {c : List Int} {n : Nat} (hc : InR c) (lc : c.length ≤ 1) (hn : VI c = (n : Int)) : Ev (fun k => F85 k b c) ((digs (B * n), ()), ((), (), ())) := by
  have := l1MulAbs_ev hb hc (by omega) (by omega)
  rw [hB, hn, show ((B : Int) * (n : Int)).toNat = B * n by rw [← Int.natCast_mul]; rfl] at this
  exact this
theorem BN_len (hb : InR b) (lb : b.length ≤ 1000) (hB : VI b = (B : Int)) {n : Nat} (hn : n ≤ 10000) : (digs (B * n)).length ≤ 1001 := by
  have h1 := VI_lt hb
  rw [hB] at h1
  have h2 : B < 10000 ^ b.length := by
    have : ((B : Nat) : Int) < ((10000 ^ b.length : Nat) : Int) := by rw [Int.natCast_pow]; exact h1
    omega
  have h3 : B * n < 10000 ^ (b.length + 1) := by
    rw [Nat.pow_succ]
    exact Nat.lt_of_le_of_lt (Nat.mul_le_mul_left B hn) (Nat.mul_lt_mul_of_pos_right h2 (by omega))
  have := digs_len_le h3
  omega
theorem cmpN (hb : InR b) (lb : b.length ≤ 1000) (hB : VI b = (B : Int)) (lX : (digs X).length ≤ 2000) {n : Nat} (hn : n ≤ 10000) : Ev (fun k => F99 k (digs (B * n)) (digs X)) ((cmpI (B * n) X, ()), ((), (), ())) :=
  cmp_ev (digs_InR _) (digs_InR _) (digs_Trim _) (digs_Trim _) (VI_digs _) (VI_digs _) (by have := BN_len hb lb hB hn; omega) (by omega)
theorem l1CmpN (hb : InR b) (lb : b.length ≤ 1000) (hB : VI b = (B : Int)) {n : Nat} (hn : n ≤ 10000) : Ev (fun k => F87 k (digs (B * n)) (digs X)) ((cmpI (B * n) X, ()), ((), (), ())) :=
  l1CmpAbs_ev (digs_InR _) (digs_InR _) (digs_Trim _) (digs_Trim _) (VI_digs _) (VI_digs _) (by have := BN_len hb lb hB hn; omega)
theorem subN (hb : InR b) (lb : b.length ≤ 1000) (hB : VI b = (B : Int)) (lX : (digs X).length ≤ 2000) {n : Nat} (h : B * n ≤ X) : Ev (fun k => F100 k (digs X) (digs (B * n))) ((digs (X - B * n), ()), ((), (), ())) := by
  have := sub_ev (digs_InR X) (digs_InR (B * n)) (digs_Trim _) (by omega) (by rw [VI_digs, VI_digs]; omega)
  rw [VI_digs, VI_digs, show ((X : Int) - ((B * n : Nat) : Int)).toNat = X - B * n by omega] at this
  exact this
theorem quo_of {n : Nat} (h1 : B * n ≤ X) (h2 : X < B * (n + 1)) : n = X / B := by
  have hp : 0 < B := by
    rcases Nat.eq_zero_or_pos B with h | h
    · subst h; omega
    · exact h
  symm
  rw [Nat.div_eq_iff hp]
  constructor
  · rw [Nat.mul_comm]; omega
  · rw [Nat.mul_comm]
    have : B * (n + 1) = B * n + B := Nat.mul_succ B n
    omega
end
end Go.Proofs.YthbibdpbfgoghaaGreatDoor.R
end

section
/-! Rf: quotients that are rounded; the least scale. -/
set_option autoImplicit false
set_option linter.unusedSimpArgs false
set_option linter.unusedVariables false
namespace Go.Proofs.YthbibdpbfgoghaaGreatDoor.R
open Go.Rf
theorem len_gt (n : Nat) : decide (((digs n).length : Int) > 0) = decide (n ≠ 0) := by
  by_cases h : n = 0
  · subst h
    rw [digs_zero]; rfl
  · rw [digs_pos h]
    rw [decide_eq_true h, decide_eq_true (by simp)]
theorem len_is0 (n : Nat) : (((digs n).length : Int) == 0) = decide (n = 0) := by
  by_cases h : n = 0
  · subst h
    rw [digs_zero]; rfl
  · rw [digs_pos h, decide_eq_false h, beq_eq_false_iff_ne]
    simp; omega
theorem addN_ev {q : Nat} {c : List Int} {n : Nat} (hc : InR c) (lc : c.length ≤ 1000) (hn : VI c = (n : Int)) (lq : (digs q).length ≤ 1000) : Ev (fun k => F98 k (digs q) c) ((digs (q + n), ()), ((), (), ())) := by
  have := add_ev (digs_InR q) hc (by omega) (by omega)
  rw [VI_digs, hn, show ((q : Int) + (n : Int)).toNat = q + n by omega] at this
  exact this
/-- whether what is left is rounded away from nought -/
def rmore (mode : Int) (neg odd : Bool) (half : Int) : Bool := if mode = 1 then true else if mode = 2 then false else if mode = 3 then !neg else if mode = 4 then neg else if mode = 5 then decide (half ≥ 0) else if mode = 6 then decide (half > 0) else (decide (half > 0) || (half == 0 && odd))
/-- a quotient that is rounded -/
def rquo (neg : Bool) (V D : Nat) (mode : Int) : Nat := if V % D = 0 then V / D else if rmore mode neg (decide (V / D % 2 = 1)) (cmpI (V % D + V % D) D) = true then V / D + 1 else V / D
def trimN : Nat → Nat → Nat × Nat
  | V, 0 => (V, 0)
  | V, s + 1 => if V % 10 = 0 then trimN (V / 10) s else (V, s + 1)
theorem div10_len {V : Nat} {m : Nat} (h : (digs V).length ≤ m) : (digs (V / 10)).length ≤ m := by
  have h1 := VI_lt (digs_InR V)
  rw [VI_digs] at h1
  have h2 : V < 10000 ^ (digs V).length := by
    have : ((V : Nat) : Int) < ((10000 ^ (digs V).length : Nat) : Int) := by rw [Int.natCast_pow]; exact h1
    omega
  have := digs_len_le (Nat.lt_of_le_of_lt (Nat.div_le_self V 10) h2)
  omega
/-- a decimal at its least scale -/
def dTrim (n : Bool) (l : List Int) (s : Int) : Bool × List Int × Int × Unit := if decOk n l s = true then (n, digs (trimN (num l) s.toNat).1, ((trimN (num l) s.toNat).2 : Int), ()) else (false, [], 0, ())
end Go.Proofs.YthbibdpbfgoghaaGreatDoor.R
end

section
/-! Rf: rounding to a scale. -/
set_option autoImplicit false
set_option linter.unusedSimpArgs false
set_option linter.unusedVariables false
namespace Go.Proofs.YthbibdpbfgoghaaGreatDoor.R
open Go.Rf
theorem made_len1 {neg : Bool} {n : Nat} {s : Int} (h : (digs n).length ≤ 1000) : (made neg n s).1.2.1.length ≤ 1000 := by
  unfold made
  split
  · show ([] : List Int).length ≤ 1000
    simp
  · exact h
theorem pow_len {V m : Nat} (hV : V < 10000 ^ 16) (hm : m ≤ 24) : (digs (V * 10 ^ m)).length ≤ 40 := digs_len_le (at_lt hV hm)
/-- what is not in order -/
def dForm : (Bool × List Int × Int × Unit) × Int × Unit := ((false, [], 0, ()), 1, ())
/-- a decimal rounded to a scale -/
def dRound (n : Bool) (l : List Int) (s sc mode : Int) : (Bool × List Int × Int × Unit) × Int × Unit := if decOk n l s = true ∧ within sc 0 12 = true ∧ within mode 1 7 = true then
  (if s.toNat ≤ sc.toNat then made n (num l * 10 ^ (sc.toNat - s.toNat)) sc else made n (rquo n (num l) (10 ^ (s.toNat - sc.toNat)) mode) sc) else dForm
end Go.Proofs.YthbibdpbfgoghaaGreatDoor.R
end

section
/-! Rf: products of decimals. -/
set_option autoImplicit false
set_option linter.unusedSimpArgs false
set_option linter.unusedVariables false
namespace Go.Proofs.YthbibdpbfgoghaaGreatDoor.R
open Go.Rf
def dMul (n1 : Bool) (l1 : List Int) (s1 : Int) (n2 : Bool) (l2 : List Int) (s2 : Int) : (Bool × List Int × Int × Unit) × Int × Unit := if decOk n1 l1 s1 = true ∧ decOk n2 l2 s2 = true then
  (if s1 + s2 > 12 then made (!(n1 == n2)) (rquo (!(n1 == n2)) (num l1 * num l2) (10 ^ (s1.toNat + s2.toNat - 12)) 7) 12 else made (!(n1 == n2)) (num l1 * num l2) (s1 + s2)) else dForm
section
variable (n1 : Bool) (l1 : List Int) (s1 : Int) (n2 : Bool) (l2 : List Int) (s2 : Int)
end
end Go.Proofs.YthbibdpbfgoghaaGreatDoor.R
end

section
/-! Rf, decimals: sums and differences, on both sides. -/
set_option autoImplicit false
set_option linter.unusedSimpArgs false
namespace Go.Proofs.YthbibdpbfgoghaaGreatDoor.R
open Go.Rf
theorem made_len {neg : Bool} {n : Nat} {s : Int} (h : (digs n).length ≤ 100) : (made neg n s).1.2.1.length ≤ 1000 := by
  unfold made
  split
  · show ([] : List Int).length ≤ 1000
    simp
  · show (digs n).length ≤ 1000
    omega
theorem sSum_zero {na nb : Bool} {A : Nat} : sSum na A nb 0 = (na, A) := by
  unfold sSum
  split
  · rfl
  · rw [if_pos (Nat.zero_le _)]
    rfl
section
variable (n1 : Bool) (l1 : List Int) (s1 : Int) (n2 : Bool) (l2 : List Int) (s2 : Int)
/-- the sum of decimals; nb: the second's sign (turned where they are taken from each other) -/
def dSum (n1 : Bool) (l1 : List Int) (s1 : Int) (n2 : Bool) (l2 : List Int) (s2 : Int) (nb : Bool) : (Bool × List Int × Int × Unit) × Int × Unit := if decOk n1 l1 s1 = true ∧ decOk n2 l2 s2 = true then
  made (sSum n1 (num l1 * 10 ^ (max s1.toNat s2.toNat - s1.toNat)) nb (num l2 * 10 ^ (max s1.toNat s2.toNat - s2.toNat))).1 (sSum n1 (num l1 * 10 ^ (max s1.toNat s2.toNat - s1.toNat)) nb (num l2 * 10 ^ (max s1.toNat s2.toNat - s2.toNat))).2 ((max s1.toNat s2.toNat : Nat) : Int) else ((false, [], 0, ()), 1, ())
end
end Go.Proofs.YthbibdpbfgoghaaGreatDoor.R
end

section
/-! Rf: decimals as whole numbers with a scale. -/
set_option autoImplicit false
set_option linter.unusedSimpArgs false
set_option linter.unusedVariables false
namespace Go.Proofs.YthbibdpbfgoghaaGreatDoor.R
open Go.Rf
/-! ### figures -/
theorem decDigits_le : ∀ (k u : Nat), (Lib.decDigits u).length ≤ k + 1 → u < 10 ^ (k + 1)
  | 0, u, h => by
    by_cases hu : u < 10
    · simpa using hu
    · rw [Lib.decDigits, dif_neg hu, List.length_append] at h
      have : 0 < (Lib.decDigits (u / 10)).length := by
        rw [Lib.decDigits]; split <;> simp
      simp only [List.length_singleton] at h; omega
  | k + 1, u, h => by
    by_cases hu : u < 10
    · have : (1 : Nat) ≤ 10 ^ (k + 1) := Nat.pow_pos (by omega)
      rw [Nat.pow_succ]; omega
    · rw [Lib.decDigits, dif_neg hu, List.length_append] at h
      have := decDigits_le k (u / 10) (by simpa using h)
      rw [Nat.pow_succ]; omega
theorem dd1 {n : Nat} (h : n < 10) : Lib.decDigits n = [UInt8.ofNat (48 + n)] := by rw [Lib.decDigits, dif_pos h]
theorem ddS {n : Nat} (h : ¬ n < 10) : Lib.decDigits n = Lib.decDigits (n / 10) ++ [UInt8.ofNat (48 + n % 10)] := by rw [Lib.decDigits, dif_neg h]
theorem fig4_nat {n : Nat} (h : n < 10000) : fig4 (n : Int) = [UInt8.ofNat (48 + n / 1000), UInt8.ofNat (48 + n / 100 % 10), UInt8.ofNat (48 + n / 10 % 10), UInt8.ofNat (48 + n % 10)] := by
  rw [fig4, itoa_nat]
  by_cases h1 : n < 10
  · rw [dd1 h1, show n / 1000 = 0 by omega, show n / 100 = 0 by omega, show n / 10 = 0 by omega, show n % 10 = n by omega]
    rfl
  · by_cases h2 : n < 100
    · rw [ddS h1, dd1 (show n / 10 < 10 by omega), show n / 1000 = 0 by omega, show n / 100 = 0 by omega, show n / 10 % 10 = n / 10 by omega]
      rfl
    · by_cases h3 : n < 1000
      · rw [ddS h1, ddS (show ¬ n / 10 < 10 by omega), dd1 (show n / 10 / 10 < 10 by omega), show n / 1000 = 0 by omega, show n / 10 / 10 = n / 100 by omega, show n / 100 % 10 = n / 100 by omega]
        rfl
      · rw [ddS h1, ddS (show ¬ n / 10 < 10 by omega), ddS (show ¬ n / 10 / 10 < 10 by omega), dd1 (show n / 10 / 10 / 10 < 10 by omega), show n / 10 / 10 / 10 = n / 1000 by omega, show n / 10 / 10 = n / 100 by omega]
        rfl
theorem dd4 {n : Nat} (h : 10000 ≤ n) : Lib.decDigits n = Lib.decDigits (n / 10000) ++ fig4 ((n % 10000 : Nat) : Int) := by
  rw [fig4_nat (Nat.mod_lt _ (by omega)), ddS (show ¬ n < 10 by omega), ddS (show ¬ n / 10 < 10 by omega), ddS (show ¬ n / 10 / 10 < 10 by omega), ddS (show ¬ n / 10 / 10 / 10 < 10 by omega)]
  rw [show n / 10 / 10 / 10 / 10 = n / 10000 by omega, show n / 10 / 10 / 10 % 10 = n % 10000 / 1000 by omega, show n / 10 / 10 % 10 = n % 10000 / 100 % 10 by omega, show n / 10 % 10 = n % 10000 / 10 % 10 by omega, show n % 10 = n % 10000 % 10 by omega]
  simp only [List.append_assoc, List.singleton_append, List.cons_append, List.nil_append]
theorem figs_digs (n : Nat) (h : 0 < n) : figs (digs n) = Lib.decDigits n := by
  induction n using Nat.strongRecOn with
  | _ n ih =>
    rw [digs_pos (by omega)]
    by_cases h2 : n / 10000 = 0
    · rw [h2, digs_zero]
      show Lib.itoa _ = _
      rw [itoa_nat, show n % 10000 = n by omega]
    · have := ih (n / 10000) (by omega) (by omega)
      rw [dd4 (by omega), ← this]
      rw [digs_pos h2]
      rfl
theorem textL_digs (n : Nat) : textL (digs n) = ⟨(Lib.decDigits n).toArray⟩ := by
  by_cases h : n = 0
  · subst h
    rw [digs_zero, dd1 (by omega)]
    rfl
  · rw [textL_pos (by rw [digs_pos h]; simp), figs_digs n (by omega)]
theorem long_digs (n : Nat) : long (digs n) = if n = 0 then 0 else ((Lib.decDigits n).length : Int) := by
  unfold long
  by_cases h : n = 0
  · subst h; rw [digs_zero]; rfl
  · rw [if_neg h, if_neg (by rw [digs_pos h]; simp), textL_digs]
    rfl
theorem long30 (n : Nat) : long (digs n) > 30 ↔ ¬ n < 10 ^ 30 := by
  rw [long_digs]
  have h1 := decDigits_le 29 n
  have h2 := decDigits_len 29 n
  have h3 : (0 : Nat) < 10 ^ 30 := Nat.pow_pos (by omega)
  split
  · subst_vars
    constructor
    · intro h; omega
    · intro h; omega
  · constructor
    · intro h h'
      have := h2 h'
      omega
    · intro h
      have : ¬ (Lib.decDigits n).length ≤ 29 + 1 := fun h' => h (h1 h')
      omega
theorem lt30_16 {n : Nat} (h : n < 10 ^ 30) : n < 10000 ^ 16 := by
  have : (10 : Nat) ^ 30 < 10000 ^ 16 := by decide
  omega
theorem len16 {n : Nat} (h : n < 10 ^ 30) : (digs n).length ≤ 16 := digs_len_le (lt30_16 h)
theorem num_digs (n : Nat) : num (digs n) = n := by unfold num; rw [VI_digs]; rfl
/-! ### decimals -/
def sg (n : Bool) (A : Nat) : Int := if n = true then -(A : Int) else A
def D (z : Int) (s : Nat) : Bool × List Int × Int × Unit := (decide (z < 0), digs z.natAbs, (s : Int), ())
def mk (z : Int) (s : Nat) : (Bool × List Int × Int × Unit) × Int × Unit := if z.natAbs < 10 ^ 30 then (D z s, 0, ()) else ((false, [], 0, ()), 3, ())
theorem D_zero : D 0 0 = (false, [], 0, ()) := by
  unfold D
  rw [show (0 : Int).natAbs = 0 from rfl, digs_zero]
  rfl
theorem bOk_digs (z : Int) (h : z.natAbs < 10000 ^ 16) : bOk (decide (z < 0)) (digs z.natAbs) = true := by
  unfold bOk lastOk
  have h1 := digs_len_le h
  have h2 := digs_spec z.natAbs
  simp only [Bool.and_eq_true, decide_eq_true_eq]
  refine ⟨⟨h1, rangeOk_iff.2 h2.1⟩, ?_⟩
  by_cases h0 : z = 0
  · subst h0; rw [show (0 : Int).natAbs = 0 from rfl, digs_zero]; rfl
  · have hne : digs z.natAbs ≠ [] := fun e => h0 (by rw [digs_nil] at e; omega)
    rw [if_neg (fun e => hne (List.length_eq_zero_iff.1 e))]
    rcases h2.2.1 with h3 | h3
    · exact absurd h3 hne
    · exact bne_iff_ne.2 h3
theorem decOk_D {z : Int} {s : Nat} (h : z.natAbs < 10 ^ 30) (hs : s ≤ 12) : decOk (decide (z < 0)) (digs z.natAbs) (s : Int) = true := by
  unfold decOk
  rw [bOk_digs z (lt30_16 h), Bool.true_and, Bool.and_eq_true, decide_eq_true_eq]
  refine ⟨?_, ?_⟩
  · have h5 : ¬ long (digs z.natAbs) > 30 := fun h' => (long30 z.natAbs).1 h' h
    omega
  · unfold within
    simp; omega
theorem bOk_ex {n : Bool} {l : List Int} (h : bOk n l = true) : ∃ z : Int, n = decide (z < 0) ∧ l = digs z.natAbs ∧ z.natAbs < 10000 ^ 16 := by
  obtain ⟨h16, hr, ht, h0⟩ := bOk_of h
  refine ⟨sg n (num l), ?_, ?_, ?_⟩
  · unfold sg
    cases n with
    | false => simp
    | true =>
      have : l ≠ [] := fun e => by have := h0 e; cases this
      have := VI_pos hr ht this
      have h3 := num_spec hr
      simp; omega
  · have : (sg n (num l)).natAbs = num l := by unfold sg; split <;> omega
    rw [this, digs_num hr ht]
  · have : (sg n (num l)).natAbs = num l := by unfold sg; split <;> omega
    rw [this]
    have h1 := VI_lt hr
    rw [num_spec hr] at h1
    have h2 : num l < 10000 ^ l.length := by
      have : ((num l : Nat) : Int) < ((10000 ^ l.length : Nat) : Int) := by rw [Int.natCast_pow]; exact h1
      omega
    have h3 : 10000 ^ l.length ≤ 10000 ^ 16 := Nat.pow_le_pow_right (by omega) h16
    omega
theorem decOk_ex {n : Bool} {l : List Int} {s : Int} (h : decOk n l s = true) : ∃ (z : Int) (t : Nat), n = decide (z < 0) ∧ l = digs z.natAbs ∧ s = (t : Int) ∧ z.natAbs < 10 ^ 30 ∧ t ≤ 12 := by
  obtain ⟨h1, h2, t, h3, h4⟩ := decOk_of h
  obtain ⟨z, rfl, rfl, _⟩ := bOk_ex h1
  refine ⟨z, t, rfl, rfl, h3, ?_, h4⟩
  have h5 : ¬ ¬ z.natAbs < 10 ^ 30 := fun h' => by have := (long30 z.natAbs).2 h'; omega
  exact Decidable.not_not.1 h5
theorem sg_abs (n : Bool) (A : Nat) : (sg n A).natAbs = A := by unfold sg; split <;> omega
theorem made_mk (n : Bool) (A s : Nat) : made n A (s : Int) = mk (sg n A) s := by
  unfold made mk
  rw [sg_abs]
  have h := long30 A
  by_cases hA : A < 10 ^ 30
  · rw [if_neg (fun h' => h.1 h' hA), if_pos hA]
    unfold D
    rw [sg_abs, len_gt]
    have : (n && decide (A ≠ 0)) = decide (sg n A < 0) := by
      unfold sg
      cases n with
      | false => simp
      | true =>
        simp only [Bool.true_and, if_true]
        congr 1
        exact propext ⟨fun h => by omega, fun h => by omega⟩
    rw [this]
  · rw [if_pos (h.2 hA), if_neg hA]
theorem sg_sum (na : Bool) (A : Nat) (nb : Bool) (B : Nat) : sg (sSum na A nb B).1 (sSum na A nb B).2 = sg na A + sg nb B := by
  unfold sSum
  split
  · subst_vars
    unfold sg
    split <;> simp <;> omega
  · split
    · rename_i h1 h2
      unfold sg
      cases na <;> cases nb <;> simp_all <;> omega
    · rename_i h1 h2
      unfold sg
      cases na <;> cases nb <;> simp_all <;> omega
theorem sg_D (z : Int) : sg (decide (z < 0)) z.natAbs = z := by
  unfold sg
  by_cases h : z < 0
  · rw [if_pos (decide_eq_true h)]; omega
  · rw [if_neg (by simpa using h)]; omega
theorem sg_Dn (z : Int) : sg (!decide (z < 0)) z.natAbs = -z := by
  unfold sg
  by_cases h : z < 0
  · rw [decide_eq_true h]; simp; omega
  · rw [decide_eq_false h]; simp; omega
theorem sg_mul (n : Bool) (A k : Nat) : sg n (A * k) = sg n A * k := by
  unfold sg
  split
  · rw [Int.natCast_mul, Int.neg_mul]
  · rw [Int.natCast_mul]
theorem dSum_D {z1 z2 : Int} {s1 s2 : Nat} (h1 : z1.natAbs < 10 ^ 30) (h2 : z2.natAbs < 10 ^ 30) (t1 : s1 ≤ 12) (t2 : s2 ≤ 12) :
    dSum (decide (z1 < 0)) (digs z1.natAbs) (s1 : Int) (decide (z2 < 0)) (digs z2.natAbs) (s2 : Int) (decide (z2 < 0)) = mk (z1 * 10 ^ (max s1 s2 - s1) + z2 * 10 ^ (max s1 s2 - s2)) (max s1 s2) := by
  unfold dSum
  rw [if_pos ⟨decOk_D h1 t1, decOk_D h2 t2⟩, Int.toNat_natCast, Int.toNat_natCast, made_mk, sg_sum, sg_mul, sg_mul, num_digs, num_digs, sg_D, sg_D]
  simp only [Int.natCast_pow]
  rfl
theorem dSub_D {z1 z2 : Int} {s1 s2 : Nat} (h1 : z1.natAbs < 10 ^ 30) (h2 : z2.natAbs < 10 ^ 30) (t1 : s1 ≤ 12) (t2 : s2 ≤ 12) :
    dSum (decide (z1 < 0)) (digs z1.natAbs) (s1 : Int) (decide (z2 < 0)) (digs z2.natAbs) (s2 : Int) (!decide (z2 < 0)) = mk (z1 * 10 ^ (max s1 s2 - s1) - z2 * 10 ^ (max s1 s2 - s2)) (max s1 s2) := by
  unfold dSum
  rw [if_pos ⟨decOk_D h1 t1, decOk_D h2 t2⟩, Int.toNat_natCast, Int.toNat_natCast, made_mk, sg_sum, sg_mul, sg_mul, num_digs, num_digs, sg_D, sg_Dn]
  simp only [Int.natCast_pow, Int.neg_mul]
  rfl
def cmpZ (x y : Int) : Int := if x < y then -1 else if x = y then 0 else 1
theorem sCmp_sg {na nb : Bool} {A B : Nat} (ha : na = true → 0 < A) (hb : nb = true → 0 < B) : sCmp na A nb B = cmpZ (sg na A) (sg nb B) := by
  unfold sCmp cmpZ sg cmpI
  cases na <;> cases nb <;> simp at ha hb ⊢ <;> (repeat' split) <;> omega
theorem pow10_pos (k : Nat) : (0 : Int) < 10 ^ k := Int.pow_pos (by omega)
theorem dCmp_D {z1 z2 : Int} {s1 s2 : Nat} : dCmp (decide (z1 < 0)) (digs z1.natAbs) s1 (decide (z2 < 0)) (digs z2.natAbs) s2 = cmpZ (z1 * 10 ^ (max s1 s2 - s1)) (z2 * 10 ^ (max s1 s2 - s2)) := by
  unfold dCmp
  rw [num_digs, num_digs, sCmp_sg, sg_mul, sg_mul, sg_D, sg_D]
  · simp only [Int.natCast_pow]; rfl
  · intro h
    have : z1 < 0 := by simpa using h
    exact Nat.mul_pos (by omega) (Nat.pow_pos (by omega))
  · intro h
    have : z2 < 0 := by simpa using h
    exact Nat.mul_pos (by omega) (Nat.pow_pos (by omega))
/-- a quotient that is rounded, with sign -/
def rdiv (mode : Int) (z : Int) (d : Nat) : Int := sg (decide (z < 0)) (rquo (decide (z < 0)) z.natAbs d mode)
theorem dRound_D {z : Int} {s sc : Nat} {mode : Int} (h : z.natAbs < 10 ^ 30) (t : s ≤ 12) (hc : sc ≤ 12) (hm : 1 ≤ mode ∧ mode ≤ 7) :
    dRound (decide (z < 0)) (digs z.natAbs) (s : Int) (sc : Int) mode = if s ≤ sc then mk (z * 10 ^ (sc - s)) sc else mk (rdiv mode z (10 ^ (s - sc))) sc := by
  unfold dRound
  rw [if_pos ⟨decOk_D h t, by unfold within; simp; omega, by unfold within; simp; omega⟩, Int.toNat_natCast, Int.toNat_natCast]
  split
  · rw [made_mk, sg_mul, num_digs, sg_D]
    simp only [Int.natCast_pow]; rfl
  · rw [made_mk, num_digs]
    rfl
theorem sg_neg_zero (n : Bool) : sg n 0 = 0 := by unfold sg; split <;> rfl
theorem rquo_zero (n : Bool) (d : Nat) (mode : Int) : rquo n 0 d mode = 0 := by unfold rquo; simp
theorem neg_mul_lt {x y : Int} (hx : x < 0) (hy : 0 < y) : x * y < 0 := Int.mul_neg_of_neg_of_pos hx hy
/-- the sign of a product -/
theorem mul_neg (x y : Int) (h : x * y ≠ 0) : (!(decide (x < 0) == decide (y < 0))) = decide (x * y < 0) := by
  have hx : x ≠ 0 := fun e => h (by rw [e]; simp)
  have hy : y ≠ 0 := fun e => h (by rw [e]; simp)
  by_cases h1 : x < 0 <;> by_cases h2 : y < 0
  · have := Int.mul_pos_of_neg_of_neg h1 h2
    simp [h1, h2]; omega
  · have := Int.mul_neg_of_neg_of_pos h1 (show 0 < y by omega)
    simp [h1, h2]; omega
  · have := Int.mul_neg_of_pos_of_neg (show 0 < x by omega) h2
    simp [h1, h2]; omega
  · have := Int.mul_pos (show 0 < x by omega) (show 0 < y by omega)
    simp [h1, h2]; omega
theorem sg_prod (x y : Int) : sg (!(decide (x < 0) == decide (y < 0))) (x.natAbs * y.natAbs) = x * y := by
  rw [← Int.natAbs_mul]
  by_cases h : x * y = 0
  · rw [h]; exact sg_neg_zero _
  · rw [mul_neg x y h, sg_D]
theorem rdiv_prod (x y : Int) (d : Nat) (mode : Int) : sg (!(decide (x < 0) == decide (y < 0))) (rquo (!(decide (x < 0) == decide (y < 0))) (x.natAbs * y.natAbs) d mode) = rdiv mode (x * y) d := by
  rw [← Int.natAbs_mul]
  by_cases h : x * y = 0
  · rw [h]
    unfold rdiv
    rw [show (0 : Int).natAbs = 0 from rfl, rquo_zero, rquo_zero, sg_neg_zero, sg_neg_zero]
  · rw [mul_neg x y h]
    rfl
theorem dMul_D {z1 z2 : Int} {s1 s2 : Nat} (h1 : z1.natAbs < 10 ^ 30) (h2 : z2.natAbs < 10 ^ 30) (t1 : s1 ≤ 12) (t2 : s2 ≤ 12) :
    dMul (decide (z1 < 0)) (digs z1.natAbs) (s1 : Int) (decide (z2 < 0)) (digs z2.natAbs) (s2 : Int) = if s1 + s2 > 12 then mk (rdiv 7 (z1 * z2) (10 ^ (s1 + s2 - 12))) 12 else mk (z1 * z2) (s1 + s2) := by
  unfold dMul
  rw [if_pos ⟨decOk_D h1 t1, decOk_D h2 t2⟩, Int.toNat_natCast, Int.toNat_natCast, num_digs, num_digs]
  by_cases h : s1 + s2 > 12
  · rw [if_pos (by omega), if_pos h, show (12 : Int) = ((12 : Nat) : Int) from rfl, made_mk, rdiv_prod]
  · rw [if_neg (by omega), if_neg h, ← Int.natCast_add, made_mk, sg_prod]
theorem trimN_spec : ∀ (s V : Nat), (trimN V s).2 ≤ s ∧ (trimN V s).1 * 10 ^ (s - (trimN V s).2) = V ∧ ((trimN V s).2 = 0 ∨ (trimN V s).1 % 10 ≠ 0)
  | 0, V => by simp [trimN]
  | s + 1, V => by
    rw [trimN]
    split
    · obtain ⟨h1, h2, h3⟩ := trimN_spec s (V / 10)
      refine ⟨by omega, ?_, h3⟩
      rw [show s + 1 - (trimN (V / 10) s).2 = (s - (trimN (V / 10) s).2) + 1 by omega, Nat.pow_succ, ← Nat.mul_assoc, h2]
      omega
    · exact ⟨Nat.le_refl _, by simp, .inr (by assumption)⟩
theorem trimN_same {s V : Nat} (h : s = 0 ∨ V % 10 ≠ 0) : trimN V s = (V, s) := by
  cases s with
  | zero => rfl
  | succ s =>
    rw [trimN, if_neg (by omega)]
theorem dTrim_D {z : Int} {s : Nat} (h : z.natAbs < 10 ^ 30) (t : s ≤ 12) : ∃ (y : Int) (r : Nat), dTrim (decide (z < 0)) (digs z.natAbs) (s : Int) = D y r ∧ y.natAbs < 10 ^ 30 ∧ r ≤ s ∧ y * 10 ^ (s - r) = z ∧ (r = 0 ∨ y % 10 ≠ 0) := by
  obtain ⟨h1, h2, h3⟩ := trimN_spec s z.natAbs
  refine ⟨sg (decide (z < 0)) (trimN z.natAbs s).1, (trimN z.natAbs s).2, ?_, ?_, h1, ?_, ?_⟩
  · unfold dTrim
    rw [if_pos (decOk_D h t), Int.toNat_natCast, num_digs]
    unfold D
    rw [sg_abs]
    refine Prod.ext ?_ rfl
    show decide (z < 0) = decide (sg _ _ < 0)
    unfold sg
    by_cases hz : z < 0
    · have : (trimN z.natAbs s).1 ≠ 0 := fun e => by rw [e, Nat.zero_mul] at h2; omega
      simp [hz]; omega
    · simp [hz]
  · rw [sg_abs]
    have : (trimN z.natAbs s).1 ≤ z.natAbs := by
      conv => rhs; rw [← h2]
      exact Nat.le_mul_of_pos_right _ (Nat.pow_pos (by omega))
    omega
  · have : sg (decide (z < 0)) ((trimN z.natAbs s).1 * 10 ^ (s - (trimN z.natAbs s).2)) = z := by rw [h2, sg_D]
    rw [sg_mul, Int.natCast_pow] at this
    exact this
  · rcases h3 with h3 | h3
    · exact .inl h3
    · right
      unfold sg
      split <;> omega
theorem dTrim_same {z : Int} {s : Nat} (h : z.natAbs < 10 ^ 30) (t : s ≤ 12) (h3 : s = 0 ∨ z % 10 ≠ 0) : dTrim (decide (z < 0)) (digs z.natAbs) (s : Int) = D z s := by
  unfold dTrim
  rw [if_pos (decOk_D h t), Int.toNat_natCast, num_digs, trimN_same (by rcases h3 with h3 | h3; exact .inl h3; right; omega)]
  rfl
end Go.Proofs.YthbibdpbfgoghaaGreatDoor.R
end

section
/-! Rf: how values compare is an order. -/
set_option autoImplicit false
set_option linter.unusedSimpArgs false
set_option linter.unusedVariables false
namespace Go.Proofs.YthbibdpbfgoghaaGreatDoor.R
open Go.Rf
theorem zc_self (x : Int) : zc x x = 0 := zc_zero.2 rfl
theorem zc_swap (x y : Int) : zc y x = -zc x y := by
  unfold zc
  by_cases a : x < y
  · rw [if_pos a, if_neg (by omega), if_pos (by omega)]; rfl
  · by_cases b : y < x
    · rw [if_pos b, if_neg (by omega), if_pos (by omega)]
    · rw [if_neg b, if_neg (by omega), if_neg a, if_neg (by omega)]; rfl
theorem zc_le {x y : Int} : zc x y ≤ 0 ↔ x ≤ y := by
  unfold zc
  by_cases a : x < y
  · rw [if_pos a]; constructor <;> intro <;> omega
  · by_cases b : y < x
    · rw [if_neg a, if_pos (by omega)]; constructor <;> intro <;> omega
    · rw [if_neg a, if_neg (by omega)]; constructor <;> intro <;> omega
theorem zc_lt {x y : Int} : zc x y < 0 ↔ x < y := by
  unfold zc
  by_cases a : x < y
  · rw [if_pos a]; constructor <;> intro <;> omega
  · by_cases b : y < x
    · rw [if_neg a, if_pos (by omega)]; constructor <;> intro <;> omega
    · rw [if_neg a, if_neg (by omega)]; constructor <;> intro <;> omega
theorem zc_range (x y : Int) : -1 ≤ zc x y ∧ zc x y ≤ 1 := by
  unfold zc
  split
  · omega
  · split <;> omega
theorem zc_cmpZ (x y : Int) : cmpZ x y = zc x y := by
  unfold zc cmpZ
  by_cases a : x < y
  · rw [if_pos a, if_pos a]
  · by_cases b : y < x
    · rw [if_neg a, if_neg (by omega), if_neg a, if_pos (by omega)]
    · rw [if_neg a, if_pos (by omega), if_neg a, if_neg (by omega)]
theorem zc_mul {x y c : Int} (hc : 0 < c) : zc (x * c) (y * c) = zc x y := by
  unfold zc
  by_cases a : x < y
  · rw [if_pos a, if_pos (Int.mul_lt_mul_of_pos_right a hc)]
  · by_cases b : y < x
    · have := Int.mul_lt_mul_of_pos_right b hc
      rw [if_neg a, if_pos (show x > y by omega), if_neg (by omega), if_pos (by omega)]
    · have e : x = y := by omega
      subst e
      rw [if_neg a, if_neg (by omega), if_neg (by omega), if_neg (by omega)]
theorem cb_swap : ∀ a b : List UInt8, Lib.compareBytes b a = -Lib.compareBytes a b
  | [], [] => rfl
  | [], _ :: _ => rfl
  | _ :: _, [] => rfl
  | x :: a, y :: b => by
    have ih := cb_swap a b
    simp only [Lib.compareBytes, UInt8.lt_iff_toNat_lt]
    by_cases p : x.toNat < y.toNat
    · rw [if_neg (show ¬ y.toNat < x.toNat by omega), if_pos p, if_pos p]; rfl
    · by_cases q : y.toNat < x.toNat
      · rw [if_pos q, if_neg p, if_pos q]
      · rw [if_neg q, if_neg p, if_neg p, if_neg q]; exact ih
theorem tri {X Y Z : Nat} {r1 r2 r3 : Int} (h3 : r1 ≤ 0 → r2 ≤ 0 → r3 ≤ 0) (h1 : (if X < Y then (-1 : Int) else if Y < X then 1 else r1) ≤ 0) (h2 : (if Y < Z then (-1 : Int) else if Z < Y then 1 else r2) ≤ 0) : (if X < Z then (-1 : Int) else if Z < X then 1 else r3) ≤ 0 := by
  by_cases e : X < Z
  · rw [if_pos e]; omega
  rw [if_neg e]
  by_cases a : X < Y
  · by_cases c : Y < Z
    · omega
    · rw [if_neg c] at h2
      by_cases d : Z < Y
      · rw [if_pos d] at h2; omega
      · omega
  · rw [if_neg a] at h1
    by_cases b : Y < X
    · rw [if_pos b] at h1; omega
    rw [if_neg b] at h1
    by_cases c : Y < Z
    · omega
    rw [if_neg c] at h2
    by_cases d : Z < Y
    · rw [if_pos d] at h2; omega
    rw [if_neg d] at h2
    rw [if_neg (by omega)]
    exact h3 h1 h2
theorem cb_trans : ∀ a b c : List UInt8, Lib.compareBytes a b ≤ 0 → Lib.compareBytes b c ≤ 0 → Lib.compareBytes a c ≤ 0
  | [], _, [] => fun _ _ => by decide
  | [], _, _ :: _ => fun _ _ => by show (-1 : Int) ≤ 0; decide
  | _ :: _, [], _ => fun h _ => by have h : (1 : Int) ≤ 0 := h; omega
  | _ :: _, _ :: _, [] => fun _ h => by have h : (1 : Int) ≤ 0 := h; omega
  | x :: a, y :: b, z :: c => fun h1 h2 => by
    simp only [Lib.compareBytes, UInt8.lt_iff_toNat_lt] at h1 h2 ⊢
    exact tri (cb_trans a b c) h1 h2
theorem cb_range (a b : List UInt8) : -1 ≤ Lib.compareBytes a b ∧ Lib.compareBytes a b ≤ 1 := by
  obtain ⟨_, _, h⟩ := less_cmp a b
  omega
/-- a value, as one -/
structure Vw where
  (k : Int) (y n : Bool) (l : List Int) (s d m a : Int) (t : ByteArray)
def Vw.ok (v : Vw) : Bool := vOk v.k v.y v.n v.l v.s v.d v.m v.a v.t
def Vw.c (v w : Vw) : Int := vc v.k v.y v.n v.l v.s v.d v.m v.a v.t w.y w.n w.l w.s w.d w.m w.a w.t
def Vw.o (v w : Vw) : Int := vo v.k v.y v.n v.l v.s v.d v.m v.a v.t w.k w.y w.n w.l w.s w.d w.m w.a w.t
/-- where a value lies among those of its kind -/
def Key (v : Vw) (x : Int) : Prop := (v.k = 1 → x = bit v.y) ∧ (v.k = 2 → ∃ (z : Int) (t : Nat), v.n = decide (z < 0) ∧ v.l = digs z.natAbs ∧ v.s = (t : Int) ∧ t ≤ 12 ∧ x = z * 10 ^ (12 - t)) ∧ (v.k = 3 → x = v.d) ∧ (v.k = 4 → x = v.m * 10000000 + v.a ∧ -4000000 ≤ v.a ∧ v.a ≤ 4000000)
theorem key_ex (v : Vw) (h : v.ok = true) : ∃ x, Key v x := by
  unfold Key
  by_cases h1 : v.k = 1
  · exact ⟨bit v.y, fun _ => rfl, fun e => by omega, fun e => by omega, fun e => by omega⟩
  by_cases h2 : v.k = 2
  · obtain ⟨z, t, e1, e2, e3, _, e4⟩ := decOk_ex (vOk_num _ _ _ _ _ _ _ _ _ h h2)
    exact ⟨z * 10 ^ (12 - t), fun e => absurd e h1, fun _ => ⟨z, t, e1, e2, e3, e4, rfl⟩, fun e => by omega, fun e => by omega⟩
  by_cases h3 : v.k = 3
  · exact ⟨v.d, fun e => absurd e h1, fun e => absurd e h2, fun _ => rfl, fun e => by omega⟩
  by_cases h4 : v.k = 4
  · refine ⟨v.m * 10000000 + v.a, fun e => absurd e h1, fun e => absurd e h2, fun e => absurd e h3, fun _ => ⟨rfl, ?_⟩⟩
    have h : vOk v.k v.y v.n v.l v.s v.d v.m v.a v.t = true := h
    unfold vOk bodyOk spanOk within at h
    rw [if_neg h2, if_neg h3, if_pos h4] at h
    simp only [Bool.and_eq_true, decide_eq_true_iff] at h
    exact ⟨h.2.2.2.1, h.2.2.2.2⟩
  · exact ⟨0, fun e => absurd e h1, fun e => absurd e h2, fun e => absurd e h3, fun e => absurd e h4⟩
theorem c_key {v w : Vw} (hk : v.k = w.k) {x y : Int} (hx : Key v x) (hy : Key w y) : v.c w = if 1 ≤ v.k ∧ v.k ≤ 4 then zc x y else tc v.t w.t := by
  obtain ⟨a1, a2, a3, a4⟩ := hx
  obtain ⟨b1, b2, b3, b4⟩ := hy
  unfold Vw.c vc
  by_cases h1 : v.k = 1
  · rw [if_pos h1, if_pos (by omega), a1 h1, b1 (by omega)]
  by_cases h2 : v.k = 2
  · obtain ⟨z1, t1, e1, e2, e3, g1, rfl⟩ := a2 h2
    obtain ⟨z2, t2, e4, e5, e6, g2, rfl⟩ := b2 (by omega)
    rw [if_neg h1, if_pos h2, if_pos (by omega), e1, e2, e3, e4, e5, e6, Int.toNat_natCast, Int.toNat_natCast, dCmp_D, zc_cmpZ, ← zc_mul (pow10_pos (12 - max t1 t2)), Int.mul_assoc, Int.mul_assoc, ← Int.pow_add, ← Int.pow_add, show max t1 t2 - t1 + (12 - max t1 t2) = 12 - t1 by omega, show max t1 t2 - t2 + (12 - max t1 t2) = 12 - t2 by omega]
  by_cases h3 : v.k = 3
  · rw [if_neg h1, if_neg h2, if_pos h3, if_pos (by omega), a3 h3, b3 (by omega)]
  by_cases h4 : v.k = 4
  · obtain ⟨e1, e2, e3⟩ := a4 h4
    obtain ⟨e4, e5, e6⟩ := b4 (by omega)
    rw [if_neg h1, if_neg h2, if_neg h3, if_pos h4, if_pos (show 1 ≤ v.k ∧ v.k ≤ 4 by omega), e1, e4]
    unfold zc
    by_cases hm : v.m = w.m
    · rw [if_pos hm, hm]
      by_cases p : v.a < w.a
      · rw [if_pos p, if_pos (by omega)]
      · by_cases q : v.a > w.a
        · rw [if_neg p, if_pos q, if_neg (by omega), if_pos (by omega)]
        · rw [if_neg p, if_neg q, if_neg (by omega), if_neg (by omega)]
    · rw [if_neg hm]
      by_cases p : v.m < w.m
      · rw [if_pos p, if_pos (by omega)]
      · rw [if_neg p, if_pos (by omega), if_neg (by omega), if_pos (by omega)]
  · rw [if_neg h1, if_neg h2, if_neg h3, if_neg h4, if_neg (by omega)]
theorem o_key {v w : Vw} {x y : Int} (hx : Key v x) (hy : Key w y) : v.o w = if v.k = w.k then (if 1 ≤ v.k ∧ v.k ≤ 4 then zc x y else tc v.t w.t) else zc v.k w.k := by
  unfold Vw.o vo
  by_cases h : v.k = w.k
  · rw [if_pos h, if_pos h]
    exact c_key h hx hy
  · rw [if_neg h, if_neg h]
theorem o_range {v w : Vw} (hv : v.ok = true) (hw : w.ok = true) : -1 ≤ v.o w ∧ v.o w ≤ 1 := by
  obtain ⟨x, hx⟩ := key_ex v hv
  obtain ⟨y, hy⟩ := key_ex w hw
  rw [o_key hx hy]
  split
  · split
    · exact zc_range _ _
    · exact cb_range _ _
  · exact zc_range _ _
theorem o_swap {v w : Vw} (hv : v.ok = true) (hw : w.ok = true) : w.o v = -v.o w := by
  obtain ⟨x, hx⟩ := key_ex v hv
  obtain ⟨y, hy⟩ := key_ex w hw
  rw [o_key hx hy, o_key hy hx]
  by_cases h : v.k = w.k
  · rw [if_pos h, if_pos h.symm, ← h]
    split
    · exact zc_swap _ _
    · exact cb_swap _ _
  · rw [if_neg h, if_neg (Ne.symm h)]
    exact zc_swap _ _
theorem o_self {v : Vw} (hv : v.ok = true) : v.o v = 0 := by
  have := o_swap hv hv
  omega
theorem o_le {v w : Vw} (hv : v.ok = true) (hw : w.ok = true) (h : v.o w ≤ 0) : v.k ≤ w.k := by
  obtain ⟨x, hx⟩ := key_ex v hv
  obtain ⟨y, hy⟩ := key_ex w hw
  rw [o_key hx hy] at h
  by_cases e : v.k = w.k
  · omega
  · rw [if_neg e, zc_le] at h; exact h
theorem o_trans {v w u : Vw} (hv : v.ok = true) (hw : w.ok = true) (hu : u.ok = true) (h1 : v.o w ≤ 0) (h2 : w.o u ≤ 0) : v.o u ≤ 0 := by
  have k1 := o_le hv hw h1
  have k2 := o_le hw hu h2
  obtain ⟨x, hx⟩ := key_ex v hv
  obtain ⟨y, hy⟩ := key_ex w hw
  obtain ⟨z, hz⟩ := key_ex u hu
  rw [o_key hx hy] at h1
  rw [o_key hy hz] at h2
  rw [o_key hx hz]
  by_cases e : v.k = u.k
  · have e1 : v.k = w.k := by omega
    have e2 : w.k = u.k := by omega
    rw [if_pos e1] at h1
    rw [if_pos e2, ← e1] at h2
    rw [if_pos e]
    by_cases r : 1 ≤ v.k ∧ v.k ≤ 4
    · rw [if_pos r, zc_le] at h1 h2 ⊢
      omega
    · rw [if_neg r] at h1 h2 ⊢
      exact cb_trans _ _ _ h1 h2
  · rw [if_neg e, zc_le]
    omega
theorem o_trans' {v w u : Vw} (hv : v.ok = true) (hw : w.ok = true) (hu : u.ok = true) (h1 : 0 ≤ v.o w) (h2 : 0 ≤ w.o u) : 0 ≤ v.o u := by
  have := o_trans hu hw hv (by rw [o_swap hw hu]; omega) (by rw [o_swap hv hw]; omega)
  rw [o_swap hv hu] at this
  omega
theorem o_kind {v w : Vw} (hv : v.ok = true) (hw : w.ok = true) (hk : v.k ≠ w.k) : (v.k < w.k) ↔ v.o w < 0 := by
  obtain ⟨x, hx⟩ := key_ex v hv
  obtain ⟨y, hy⟩ := key_ex w hw
  rw [o_key hx hy, if_neg hk, zc_lt]
/-- the null -/
def nul : Vw := ⟨0, false, false, [], 0, 0, 0, 0, ByteArray.empty⟩
theorem nul_ok : nul.ok = true := by
  unfold Vw.ok nul vOk bareOk bodyOk within noText decZ
  simp
theorem nul_le {v : Vw} (hv : v.ok = true) : nul.o v ≤ 0 := by
  obtain ⟨x, hx⟩ := key_ex nul nul_ok
  obtain ⟨y, hy⟩ := key_ex v hv
  have hk := (vOk_kind hv).1
  have n0 : nul.k = 0 := rfl
  rw [o_key hx hy]
  by_cases h : nul.k = v.k
  · have ht := vOk_noText hv (show v.k ≠ 5 by omega)
    rw [if_pos h, if_neg (by omega)]
    unfold tc
    rw [ht]
    exact Int.le_refl _
  · rw [if_neg h, zc_le, n0]
    exact hk
end Go.Proofs.YthbibdpbfgoghaaGreatDoor.R
end

section
/-! Rf: rows are compared. -/
set_option autoImplicit false
set_option linter.unusedSimpArgs false
set_option linter.unusedVariables false
namespace Go.Proofs.YthbibdpbfgoghaaGreatDoor.R
open Go.Rf
def allV (vs : List Vl) : Bool := (List.range vs.length).all fun i => vE (vs.getD i v0)
def oE (v w : Vl) : Int := vo v.1 v.2.1 v.2.2.1 v.2.2.2.1 v.2.2.2.2.1 v.2.2.2.2.2.1 v.2.2.2.2.2.2.1 v.2.2.2.2.2.2.2.1 v.2.2.2.2.2.2.2.2.1 w.1 w.2.1 w.2.2.1 w.2.2.2.1 w.2.2.2.2.1 w.2.2.2.2.2.1 w.2.2.2.2.2.2.1 w.2.2.2.2.2.2.2.1 w.2.2.2.2.2.2.2.2.1
theorem allV_get {vs : List Vl} (h : allV vs = true) {i : Nat} (hi : i < vs.length) : vE (vs.getD i v0) = true := by
  unfold allV at h
  rw [List.all_eq_true] at h
  exact h i (List.mem_range.2 hi)
theorem l5RowOk_ev (vs : List Vl) (hl : vs.length ≤ 1048576) (hs : ∀ v ∈ vs, szOk v) : Ev (fun k => F14 k vs) ((allV vs, ()), ((), ())) := by
  refine Ev.step 2 (fun k => F14_eq k _) ?_
  have h := all_loop (L := fun k i => F14c2 k vs i) (n := vs.length) (no := ((false, ()), ((), ()))) (yes := ((true, ()), ((), ()))) (c := fun i => vE (vs.getD i v0))
    (fun i hi hc => by
      refine Ev.step 1 (fun k => F14c2_eq k _ _) ?_
      simp only [lt_true hi, ge0, if_true, Int.toNat_natCast, atD (d := v0) hi, Option.bind_some]
      refine Ev.bind (l4Ok_ev _ _ _ _ _ _ _ _ _ (szD hs hi).1 (szD hs hi).2) ?_
      have hc : (vE (vs.getD i v0)) = false := hc
      unfold vE at hc
      simp only [hc, Bool.not_false, if_true]
      exact Ev.now _)
    (fun i hi hc r hr => by
      refine Ev.step 1 (fun k => F14c2_eq k _ _) ?_
      simp only [lt_true hi, ge0, if_true, Int.toNat_natCast, atD (d := v0) hi, Option.bind_some]
      refine Ev.bind (l4Ok_ev _ _ _ _ _ _ _ _ _ (szD hs hi).1 (szD hs hi).2) ?_
      have hc : (vE (vs.getD i v0)) = true := hc
      unfold vE at hc
      simp only [hc, Bool.not_true, Bool.false_eq_true, if_false, wrap_succ (show i < 9223372036854775807 by omega)]
      exact hr)
    (by
      refine Ev.step 1 (fun k => F14c2_eq k _ _) ?_
      simp only [lt_false (Nat.le_refl vs.length), Bool.false_eq_true, if_false]
      exact Ev.now _)
  have e : (if (List.range vs.length).all (fun i => vE (vs.getD i v0)) = true then ((true, ()), ((), ())) else ((false, ()), ((), ()))) = ((allV vs, ()), ((), ())) := by
    unfold allV
    cases (List.range vs.length).all (fun i => vE (vs.getD i v0)) <;> simp
  rw [e] at h
  exact h
theorem bad_ev (v : Vl) (hs : szOk v) : Ev (fun k => F18 k v.1 v.2.1 v.2.2.1 v.2.2.2.1 v.2.2.2.2.1 v.2.2.2.2.2.1 v.2.2.2.2.2.2.1 v.2.2.2.2.2.2.2.1 v.2.2.2.2.2.2.2.2.1) ((!(vE v), ()), (((), (), (), (), (), (), (), (), (), ()), ())) :=
  Ev.step 2 (fun k => F18_eq k _ _ _ _ _ _ _ _ _) (Ev.bind (ValueOk_ev _ _ _ _ _ _ _ _ _ hs.1 hs.2) (Ev.now _))
theorem hasBad_ev (vs : List Vl) (hl : vs.length ≤ 1048576) (hs : ∀ v ∈ vs, szOk v) : Ev (fun k => F19020 k vs) ((!(allV vs), ()), ((), (), ())) := by
  obtain ⟨r, h1, h2⟩ := find_loop (L := fun k i => F19036c2 k vs (vs.length : Int) i) (n := vs.length) (no := fun i => (((i : Int), ()), ((), (), ()))) (yes := (((-1 : Int), ()), ((), (), ()))) (c := fun i => vE (vs.getD i v0)) (fun i hi hc => by
      refine Ev.step 1 (fun k => F19036c2_eq k vs _ i) ?_
      simp only [lt_true hi, ge0, if_true, Int.toNat_natCast, atD (d := v0) hi, Option.bind_some]
      refine Ev.bind (bad_ev _ (szD hs hi)) ?_
      simp only [hc, Bool.not_false, if_true]
      exact Ev.now _) (fun i hi hc r hr => by
      refine Ev.step 1 (fun k => F19036c2_eq k vs _ i) ?_
      simp only [lt_true hi, ge0, if_true, Int.toNat_natCast, atD (d := v0) hi, Option.bind_some]
      refine Ev.bind (bad_ev _ (szD hs hi)) ?_
      simp only [hc, Bool.not_true, Bool.false_eq_true, if_false]
      rw [wrap_succ (by omega)]
      exact hr) (by
      refine Ev.step 1 (fun k => F19036c2_eq k vs _ vs.length) ?_
      simp only [lt_false (Nat.le_refl vs.length), Bool.false_eq_true, if_false]
      exact Ev.now _)
  refine Ev.step 2 (fun k => F19020_eq k vs) (Ev.bind (Ev.step 2 (fun k => F19036_eq k vs) h1) ?_)
  have : decide (r.1.1 ≥ (0 : Int)) = !(allV vs) := by
    unfold allV
    rcases h2 with ⟨h2, rfl⟩ | ⟨h2, i, _, rfl⟩
    · rw [h2]; rfl
    · rw [h2]; simp
  simp only [this]
  exact Ev.now _
def colsOk (cs : List Int) (n : Nat) : Bool := (List.range cs.length).all fun i => within (cs.getD i 0) 0 ((n : Int) - 1)
theorem col_ev (c : Int) (vs : List Vl) (hl : vs.length ≤ 1048576) : Ev (fun k => F22 k c vs) ((!(within c 0 ((vs.length : Int) - 1)), ()), ((), (), ())) := by
  refine Ev.step 2 (fun k => F22_eq k _ _) ?_
  rw [wrap64 (show -9223372036854775808 ≤ (vs.length : Int) - 1 by omega) (by omega)]
  exact Ev.bind (in_ev _ _ _) (Ev.now _)
theorem hasCol_ev (cs : List Int) (vs : List Vl) (hl : vs.length ≤ 1048576) (hc : cs.length ≤ 1048576) : Ev (fun k => F23021 k cs vs) ((!(colsOk cs vs.length), ()), ((), ((), ()), ())) := by
  obtain ⟨r, h1, h2⟩ := find_loop (L := fun k i => F23037c2 k cs vs (cs.length : Int) i) (n := cs.length) (no := fun i => (((i : Int), ()), ((), ((), ()), ()))) (yes := (((-1 : Int), ()), ((), ((), ()), ()))) (c := fun i => within (cs.getD i 0) 0 ((vs.length : Int) - 1)) (fun i hi hc => by
      refine Ev.step 1 (fun k => F23037c2_eq k cs vs _ i) ?_
      simp only [lt_true hi, ge0, if_true, Int.toNat_natCast, atD (d := (0 : Int)) hi, Option.bind_some]
      refine Ev.bind (col_ev _ vs hl) ?_
      simp only [hc, Bool.not_false, if_true]
      exact Ev.now _) (fun i hi hc r hr => by
      refine Ev.step 1 (fun k => F23037c2_eq k cs vs _ i) ?_
      simp only [lt_true hi, ge0, if_true, Int.toNat_natCast, atD (d := (0 : Int)) hi, Option.bind_some]
      refine Ev.bind (col_ev _ vs hl) ?_
      simp only [hc, Bool.not_true, Bool.false_eq_true, if_false]
      rw [wrap_succ (by omega)]
      exact hr) (by
      refine Ev.step 1 (fun k => F23037c2_eq k cs vs _ cs.length) ?_
      simp only [lt_false (Nat.le_refl cs.length), Bool.false_eq_true, if_false]
      exact Ev.now _)
  refine Ev.step 2 (fun k => F23021_eq k cs vs) (Ev.bind (Ev.step 2 (fun k => F23037_eq k cs vs) h1) ?_)
  have : decide (r.1.1 ≥ (0 : Int)) = !(colsOk cs vs.length) := by
    unfold colsOk
    rcases h2 with ⟨h2, rfl⟩ | ⟨h2, i, _, rfl⟩
    · rw [h2]; rfl
    · rw [h2]; simp
  simp only [this]
  exact Ev.now _
theorem l6ColsOk_ev (cs : List Int) (ds : List Bool) (n : Nat) (hn : n ≤ 1048576) (hc : cs.length ≤ 1048576) : Ev (fun k => F15 k cs ds (n : Int)) ((colsOk cs n && ((cs.length : Int) == (ds.length : Int)), ()), ((), (), (), ())) := by
  refine Ev.step 2 (fun k => F15_eq k _ _ _) ?_
  have h := all_loop (L := fun k i => F15c2 k cs ds (n : Int) i) (n := cs.length) (no := ((false, ()), ((), (), (), ()))) (yes := ((((cs.length : Int) == (ds.length : Int)), ()), ((), (), (), ()))) (c := fun i => within (cs.getD i 0) 0 ((n : Int) - 1))
    (fun i hi hc => by
      refine Ev.step 1 (fun k => F15c2_eq k _ _ _ _) ?_
      simp only [lt_true hi, ge0, if_true, Int.toNat_natCast, atD (d := (0 : Int)) hi, Option.bind_some, wrap64 (show -9223372036854775808 ≤ (n : Int) - 1 by omega) (by omega)]
      refine Ev.bind (l1In_ev _ _ _) ?_
      simp only [hc, Bool.not_false, if_true]
      exact Ev.now _)
    (fun i hi hc r hr => by
      refine Ev.step 1 (fun k => F15c2_eq k _ _ _ _) ?_
      simp only [lt_true hi, ge0, if_true, Int.toNat_natCast, atD (d := (0 : Int)) hi, Option.bind_some, wrap64 (show -9223372036854775808 ≤ (n : Int) - 1 by omega) (by omega)]
      refine Ev.bind (l1In_ev _ _ _) ?_
      simp only [hc, Bool.not_true, Bool.false_eq_true, if_false]
      rw [wrap_succ (by omega)]
      exact hr)
    (by
      refine Ev.step 1 (fun k => F15c2_eq k _ _ _ _) ?_
      simp only [lt_false (Nat.le_refl cs.length), Bool.false_eq_true, if_false]
      exact Ev.now _)
  have e : (if (List.range cs.length).all (fun i => within (cs.getD i 0) 0 ((n : Int) - 1)) = true then ((((cs.length : Int) == (ds.length : Int)), ()), ((), (), (), ())) else ((false, ()), ((), (), (), ()))) = ((colsOk cs n && ((cs.length : Int) == (ds.length : Int)), ()), ((), (), (), ())) := by
    unfold colsOk
    cases (List.range cs.length).all (fun i => within (cs.getD i 0) 0 ((n : Int) - 1)) <;> simp
  rw [e] at h
  exact h
/-! ### all is valid -/
def rO (a b : List Vl) : List Int → List Bool → Int
  | c :: cs, d :: ds => if oE (a.getD c.toNat v0) (b.getD c.toNat v0) = 0 then rO a b cs ds else if d = true then -oE (a.getD c.toNat v0) (b.getD c.toNat v0) else oE (a.getD c.toNat v0) (b.getD c.toNat v0)
  | _, _ => 0
theorem oE_range {v w : Vl} (hv : vE v = true) (hw : vE w = true) : -1 ≤ oE v w ∧ oE v w ≤ 1 :=
  o_range (v := ⟨v.1, v.2.1, v.2.2.1, v.2.2.2.1, v.2.2.2.2.1, v.2.2.2.2.2.1, v.2.2.2.2.2.2.1, v.2.2.2.2.2.2.2.1, v.2.2.2.2.2.2.2.2.1⟩) (w := ⟨w.1, w.2.1, w.2.2.1, w.2.2.2.1, w.2.2.2.2.1, w.2.2.2.2.2.1, w.2.2.2.2.2.2.1, w.2.2.2.2.2.2.2.1, w.2.2.2.2.2.2.2.2.1⟩) hv hw
theorem oE_swap {v w : Vl} (hv : vE v = true) (hw : vE w = true) : oE w v = -oE v w :=
  o_swap (v := ⟨v.1, v.2.1, v.2.2.1, v.2.2.2.1, v.2.2.2.2.1, v.2.2.2.2.2.1, v.2.2.2.2.2.2.1, v.2.2.2.2.2.2.2.1, v.2.2.2.2.2.2.2.2.1⟩) (w := ⟨w.1, w.2.1, w.2.2.1, w.2.2.2.1, w.2.2.2.2.1, w.2.2.2.2.2.1, w.2.2.2.2.2.2.1, w.2.2.2.2.2.2.2.1, w.2.2.2.2.2.2.2.2.1⟩) hv hw
theorem within_iff {n lo hi : Int} : within n lo hi = true ↔ lo ≤ n ∧ n ≤ hi := by
  unfold within
  simp only [Bool.and_eq_true, decide_eq_true_eq, ge_iff_le]
theorem colsOk_get {cs : List Int} {n : Nat} (h : colsOk cs n = true) {i : Nat} (hi : i < cs.length) : 0 ≤ cs.getD i 0 ∧ (cs.getD i 0).toNat < n := by
  unfold colsOk at h
  rw [List.all_eq_true] at h
  have := within_iff.1 (h i (List.mem_range.2 hi))
  omega
section
variable {a b : List Vl} {cs : List Int} {ds : List Bool}
theorem rows_ev (hab : b.length = a.length) (hla : a.length ≤ 1048576) (hc : cs.length ≤ 1048576) (hd : ds.length = cs.length) (ha : allV a = true) (hb : allV b = true) (hk : colsOk cs a.length = true) : ∀ (m i : Nat), i + m = cs.length →
    Ev (fun k => F24c2 k a b ds cs (cs.length : Int) (i : Int)) ((rO a b (cs.drop i) (ds.drop i), ()), ((), (), (), (), ())) ∧ Ev (fun k => F16c2 k a b cs ds (i : Int)) ((rO a b (cs.drop i) (ds.drop i), ()), ((), (), (), (), ())) := by
  intro m
  induction m with
  | zero =>
    intro i hi
    have e : cs.drop i = [] := List.drop_eq_nil_of_le (by omega)
    rw [e]
    refine ⟨Ev.step 1 (fun k => F24c2_eq k _ _ _ _ _ _) ?_, Ev.step 1 (fun k => F16c2_eq k _ _ _ _ _) ?_⟩
    · simp only [lt_false (show cs.length ≤ i by omega), Bool.false_eq_true, if_false]
      exact Ev.now _
    · simp only [lt_false (show cs.length ≤ i by omega), Bool.false_eq_true, if_false]
      exact Ev.now _
  | succ m ih =>
    intro i hi
    have hlt : i < cs.length := by omega
    have hlt2 : i < ds.length := by omega
    obtain ⟨h0, h1⟩ := colsOk_get hk hlt
    obtain ⟨g1, g2⟩ := ih (i + 1) (by omega)
    have e1 : cs.drop i = cs.getD i 0 :: cs.drop (i + 1) := by
      rw [List.drop_eq_getElem_cons hlt, List.getD_eq_getElem?_getD, List.getElem?_eq_getElem hlt]; rfl
    have e2 : ds.drop i = ds.getD i false :: ds.drop (i + 1) := by
      rw [List.drop_eq_getElem_cons hlt2, List.getD_eq_getElem?_getD, List.getElem?_eq_getElem hlt2]; rfl
    obtain ⟨c, hc'⟩ : ∃ c, c = cs.getD i 0 := ⟨_, rfl⟩
    rw [e1, e2]
    have va := allV_get ha h1
    have vb := allV_get hb (show (cs.getD i 0).toNat < b.length by omega)
    have rg := oE_range va vb
    have im := order_ev _ _ _ _ _ _ _ _ _ _ _ _ _ _ _ _ _ _ (show vOk _ _ _ _ _ _ _ _ _ = true from va) (show vOk _ _ _ _ _ _ _ _ _ = true from vb)
    have sp := l4Order_ev _ _ _ _ _ _ _ _ _ _ _ _ _ _ _ _ _ _ (show vOk _ _ _ _ _ _ _ _ _ = true from va) (show vOk _ _ _ _ _ _ _ _ _ = true from vb)
    have ga : a[(cs.getD i 0).toNat]? = some (a.getD (cs.getD i 0).toNat v0) := atD h1
    have gb : b[(cs.getD i 0).toNat]? = some (b.getD (cs.getD i 0).toNat v0) := atD (by omega)
    have gc : cs[i]? = some (cs.getD i 0) := atD hlt
    have gd : ds[i]? = some (ds.getD i false) := atD hlt2
    obtain ⟨n, hn⟩ : ∃ n, n = oE (a.getD (cs.getD i 0).toNat v0) (b.getD (cs.getD i 0).toNat v0) := ⟨_, rfl⟩
    have hn' := hn
    unfold oE at hn'
    rw [← hn'] at im sp
    rw [← hn] at rg
    have ew : IntKind.i64.wrap (0 - n) = -n := by rw [wrap64 (by omega) (by omega)]; omega
    have er : rO a b (cs.getD i 0 :: cs.drop (i + 1)) (ds.getD i false :: ds.drop (i + 1)) = if n = 0 then rO a b (cs.drop (i + 1)) (ds.drop (i + 1)) else if ds.getD i false = true then -n else n := by
      rw [rO, ← hn]
    rw [er]
    constructor
    · refine Ev.step 1 (fun k => F24c2_eq k _ _ _ _ _ _) ?_
      simp only [lt_true hlt, ge0, if_true, Int.toNat_natCast, gc, gd, ga, gb, Option.bind_some, decide_eq_true h0]
      refine Ev.bind im ?_
      by_cases z : n = 0
      · simp only [z, bne_self_eq_false, Bool.false_eq_true, if_false, if_true, wrap_succ (show i < 9223372036854775807 by omega)]
        exact g1
      · have z' : (n != (0 : Int)) = true := by rw [bne_iff_ne]; exact z
        simp only [z', if_true, if_neg z]
        cases hq : ds.getD i false with
        | true =>
          simp only [if_true, ew]
          exact Ev.now _
        | false =>
          simp only [Bool.false_eq_true, if_false]
          exact Ev.now _
    · refine Ev.step 1 (fun k => F16c2_eq k _ _ _ _ _) ?_
      simp only [lt_true hlt, ge0, if_true, Int.toNat_natCast, gc, gd, ga, gb, Option.bind_some, decide_eq_true h0]
      refine Ev.bind sp ?_
      by_cases z : n = 0
      · simp only [z, bne_self_eq_false, Bool.false_eq_true, if_false, if_true, wrap_succ (show i < 9223372036854775807 by omega)]
        exact g2
      · have z' : (n != (0 : Int)) = true := by rw [bne_iff_ne]; exact z
        simp only [z', if_true, if_neg z]
        cases hq : ds.getD i false with
        | true =>
          simp only [if_true, ew]
          exact Ev.now _
        | false =>
          simp only [Bool.false_eq_true, if_false]
          exact Ev.now _
end
def rowsOk (a b : List Vl) (cs : List Int) (ds : List Bool) : Bool := decide (b.length = a.length) && decide (ds.length = cs.length) && allV a && allV b && colsOk cs a.length
def rowV (a b : List Vl) (cs : List Int) (ds : List Bool) : Int := if rowsOk a b cs ds = true then rO a b cs ds else 2
theorem RowOrder_both (a b : List Vl) (cs : List Int) (ds : List Bool) (hla : a.length ≤ 1048576) (hlb : b.length ≤ 1048576) (hc : cs.length ≤ 1048576) (hd : ds.length ≤ 1048576) (sa : ∀ v ∈ a, szOk v) (sb : ∀ v ∈ b, szOk v) :
    Ev (fun k => F9 k a b cs ds) ((rowV a b cs ds, ()), ((), (), (), (), ())) ∧ Ev (fun k => F5 k a b cs ds) ((rowV a b cs ds, ()), ((), (), (), (), ())) := by
  have i1 := hasBad_ev a hla sa
  have i2 := hasBad_ev b hlb sb
  have i3 := hasCol_ev cs a hla hc
  have s1 := l5RowOk_ev a hla sa
  have s2 := l5RowOk_ev b hlb sb
  have s3 := l6ColsOk_ev cs ds a.length hla hc
  unfold rowV rowsOk
  constructor
  · refine Ev.step 2 (fun k => F9_eq k _ _ _ _) ?_
    by_cases h1 : b.length = a.length
    · have c1 : ((a.length : Int) != (b.length : Int)) = false := by rw [h1]; exact bne_self_eq_false _
      simp only [c1, Bool.false_eq_true, if_false, decide_eq_true h1, Bool.true_and]
      by_cases h2 : ds.length = cs.length
      · have c2 : ((cs.length : Int) != (ds.length : Int)) = false := by rw [h2]; exact bne_self_eq_false _
        simp only [c2, Bool.false_eq_true, if_false, decide_eq_true h2, Bool.true_and]
        refine Ev.bind i1 ?_
        cases ha : allV a with
        | false => simp only [Bool.not_false, if_true, Bool.false_and, Bool.false_eq_true, if_false]; exact Ev.now _
        | true =>
          simp only [Bool.not_true, Bool.false_eq_true, if_false, Bool.true_and]
          refine Ev.bind i2 ?_
          cases hb : allV b with
          | false => simp only [Bool.not_false, if_true, Bool.false_and, Bool.false_eq_true, if_false]; exact Ev.now _
          | true =>
            simp only [Bool.not_true, Bool.false_eq_true, if_false, Bool.true_and]
            refine Ev.bind i3 ?_
            cases hk : colsOk cs a.length with
            | false => simp only [Bool.not_false, if_true, Bool.false_and, Bool.false_eq_true, if_false]; exact Ev.now _
            | true =>
              simp only [Bool.not_true, Bool.false_eq_true, if_false, Bool.true_and, if_true]
              have := (rows_ev h1 hla hc h2 ha hb hk cs.length 0 (by omega)).1
              exact Ev.bind (Ev.step 2 (fun k => F24_eq k _ _ _ _) this) (Ev.now _)
      · have c2 : ((cs.length : Int) != (ds.length : Int)) = true := by rw [bne_iff_ne]; omega
        simp only [c2, if_true, decide_eq_false h2, Bool.false_and, Bool.false_eq_true, if_false]
        exact Ev.now _
    · have c1 : ((a.length : Int) != (b.length : Int)) = true := by rw [bne_iff_ne]; omega
      simp only [c1, if_true, decide_eq_false h1, Bool.false_and, Bool.false_eq_true, if_false]
      exact Ev.now _
  · refine Ev.step 2 (fun k => F5_eq k _ _ _ _) (Ev.bind s1 ?_)
    cases ha : allV a with
    | false => simp only [Bool.not_false, if_true, Bool.false_and, Bool.and_false, Bool.false_eq_true, if_false]; exact Ev.now _
    | true =>
      simp only [Bool.not_true, Bool.false_eq_true, if_false, Bool.and_true]
      refine Ev.bind s2 ?_
      cases hb : allV b with
      | false => simp only [Bool.not_false, if_true, Bool.false_and, Bool.and_false, Bool.false_eq_true, if_false]; exact Ev.now _
      | true =>
        simp only [Bool.not_true, Bool.false_eq_true, if_false, Bool.and_true]
        by_cases h1 : b.length = a.length
        · have c1 : ((a.length : Int) != (b.length : Int)) = false := by rw [h1]; exact bne_self_eq_false _
          simp only [c1, Bool.false_eq_true, if_false, decide_eq_true h1, Bool.true_and]
          refine Ev.bind s3 ?_
          by_cases h2 : ds.length = cs.length
          · have c2 : ((cs.length : Int) == (ds.length : Int)) = true := by rw [h2]; exact beq_self_eq_true _
            simp only [c2, decide_eq_true h2, Bool.true_and, Bool.and_true]
            cases hk : colsOk cs a.length with
            | false => simp only [Bool.not_false, if_true, Bool.false_eq_true, if_false]; exact Ev.now _
            | true =>
              simp only [Bool.not_true, Bool.false_eq_true, if_false, if_true]
              have := (rows_ev h1 hla hc h2 ha hb hk cs.length 0 (by omega)).2
              exact Ev.bind (Ev.step 2 (fun k => F16_eq k _ _ _ _) this) (Ev.now _)
          · have c2 : ((cs.length : Int) == (ds.length : Int)) = false := by rw [beq_eq_false_iff_ne]; omega
            simp only [c2, decide_eq_false h2, Bool.false_and, Bool.and_false, Bool.not_false, if_true, Bool.false_eq_true, if_false]
            exact Ev.now _
        · have c1 : ((a.length : Int) != (b.length : Int)) = true := by rw [bne_iff_ne]; omega
          simp only [c1, if_true, decide_eq_false h1, Bool.false_and, Bool.false_eq_true, if_false]
          exact Ev.now _
end Go.Proofs.YthbibdpbfgoghaaGreatDoor.R
end

section
/-! Rf: the law FnExactRowOrder, with no machine in sight. -/
set_option autoImplicit false
set_option linter.unusedSimpArgs false
set_option linter.unusedVariables false
namespace Go.Proofs.YthbibdpbfgoghaaGreatDoor.R
open Go.Rf
theorem toBoolS_ev (l : List Bool) (h : l.length ≤ 1048576) : Ev (fun k => F8 k l) ((l, ()), ((), ())) := by
  refine Ev.step 2 (fun k => F8_eq k l) ?_
  have c : (decide (0 ≤ (l.length : Int)) && decide ((l.length : Int) ≤ (l.length : Int)) && decide ((l.length : Int) ≤ (140737488355328 : Int))) = true := by simp; omega
  simp only [c, if_true]
  have := copy_loop (L := fun k x3 i => F8c3 k l x3 i) (x0 := l) (g := fun _ y => some y) (f := id) (fin := fun x => ((x, ()), ((), ()))) (h := id) (by omega) (fun k x3 i => F8c3_eq k l x3 i) (fun y _ => Ev.now y)
    (List.replicate (l.length : Int).toNat false) (by simp)
  simpa using this
theorem eqBoolS_ev (l : List Bool) (h : l.length ≤ 1048576) : Ev (fun k => F12 k l l) ((true, ()), ((), (), ())) := by
  refine Ev.step 2 (fun k => F12_eq k l l) ?_
  simp only [bne_self_eq_false, Bool.false_eq_true, if_false]
  exact same_loop (L := fun k i => F12c4 k l l i) (x0 := l) (g := fun _ y1 y2 => some (y1 == y2)) (p := id) (no := ((false, ()), ((), (), ()))) (h := fun _ => true) (by omega) (fun k i => F12c4_eq k l l i) (fun y _ => by
    simp only [beq_self_eq_true]
    exact ⟨Ev.now _, rfl⟩)
theorem toIntS'_ev (l : List Int) (h : l.length ≤ 1048576) : Ev (fun k => F7 k l) ((l, ()), ((), ())) := by
  refine Ev.step 2 (fun k => F7_eq k l) ?_
  have c : (decide (0 ≤ (l.length : Int)) && decide ((l.length : Int) ≤ (l.length : Int)) && decide ((l.length : Int) ≤ (17592186044416 : Int))) = true := by simp; omega
  simp only [c, if_true]
  have := copy_loop (L := fun k x3 i => F7c3 k l x3 i) (x0 := l) (g := fun _ y => some y) (f := id) (fin := fun x => ((x, ()), ((), ()))) (h := id) (by omega) (fun k x3 i => F7c3_eq k l x3 i) (fun y _ => Ev.now y)
    (List.replicate (l.length : Int).toNat 0) (by simp)
  simpa using this
theorem eqIntS'_ev (l : List Int) (h : l.length ≤ 1048576) : Ev (fun k => F11 k l l) ((true, ()), ((), (), ())) := by
  refine Ev.step 2 (fun k => F11_eq k l l) ?_
  simp only [bne_self_eq_false, Bool.false_eq_true, if_false]
  exact same_loop (L := fun k i => F11c4 k l l i) (x0 := l) (g := fun _ y1 y2 => some (!(y1 != y2))) (p := id) (no := ((false, ()), ((), (), ()))) (h := fun _ => true) (by omega) (fun k i => by
    refine (F11c4_eq k l l i).trans ?_
    simp only [Option.bind_some, id, Bool.not_not]) (fun y _ => by
    simp only [bne_self_eq_false, Bool.not_false]
    exact ⟨Ev.now _, rfl⟩)
theorem FnExactRowOrder : PureFnExactRowOrder := by
  intro a b cs ds wa wb wc wd
  have fin : Ev (fun k => F3 k a b cs ds) ((true, ()), ((), (), (), (), ())) := by
    refine Ev.step 2 (fun k => F3_eq k _ _ _ _) ?_
    by_cases hc : cs.length > 1048576
    · simp only [decide_eq_true (show (cs.length : Int) > 1048576 by omega), if_true]
      exact Ev.now _
    simp only [decide_eq_false (show ¬ (cs.length : Int) > 1048576 by omega), Bool.false_eq_true, if_false]
    by_cases hd : ds.length > 1048576
    · simp only [decide_eq_true (show (ds.length : Int) > 1048576 by omega), if_true]
      exact Ev.now _
    simp only [decide_eq_false (show ¬ (ds.length : Int) > 1048576 by omega), Bool.false_eq_true, if_false]
    obtain ⟨q, g1, g2⟩ := szValueS_ev a wa 1048576 (by omega) (by omega)
    refine Ev.bind g1 ?_
    rcases g2 with g2 | ⟨g2, g3, g4, g5⟩
    · simp only [g2, decide_true, if_true]
      exact Ev.now _
    simp only [decide_eq_false (show ¬ q.1.1 < 0 by omega), Bool.false_eq_true, if_false]
    obtain ⟨q2, h1, h2⟩ := szValueS_ev b wb q.1.1 g2 g3
    refine Ev.bind h1 ?_
    rcases h2 with h2 | ⟨h2, _, h4, h5⟩
    · simp only [h2, decide_true, if_true]
      exact Ev.now _
    simp only [decide_eq_false (show ¬ q2.1.1 < 0 by omega), Bool.false_eq_true, if_false]
    have a1 := toValueS_ev a g4 g5
    have a2 := toValueS_ev b h4 h5
    have a3 := toIntS'_ev cs (by omega)
    have a4 := toBoolS_ev ds (by omega)
    obtain ⟨im, sp⟩ := RowOrder_both a b cs ds g4 h4 (by omega) (by omega) g5 h5
    refine Ev.bind a1 (Ev.bind a2 (Ev.bind a3 (Ev.bind a4 (Ev.bind sp (Ev.bind a1 (Ev.bind a2 (Ev.bind a3 (Ev.bind a4 (Ev.bind im ?_)))))))))
    simp only [bne_self_eq_false, Bool.false_eq_true, if_false]
    refine Ev.bind a1 (Ev.bind (eqValueS_ev a g4 g5) ?_)
    simp only [Bool.not_true, Bool.false_eq_true, if_false]
    refine Ev.bind a2 (Ev.bind (eqValueS_ev b h4 h5) ?_)
    simp only [Bool.not_true, Bool.false_eq_true, if_false]
    refine Ev.bind a3 (Ev.bind (eqIntS'_ev cs (by omega)) ?_)
    simp only [Bool.not_true, Bool.false_eq_true, if_false]
    refine Ev.bind a4 (Ev.bind (eqBoolS_ev ds (by omega)) ?_)
    simp only [Bool.not_true, Bool.false_eq_true, if_false]
    exact Ev.now _
  obtain ⟨k, hk⟩ := Ev.get fin
  exact ⟨k, _, hk⟩
end Go.Proofs.YthbibdpbfgoghaaGreatDoor.R
end

section
/-- The row, under a short name, for the claim. -/
theorem Go.Proofs.YthbibdpbfgoghaaGreatDoor.fnExactRowOrder_holds : Go.Proofs.YthbibdpbfgoghaaGreatDoor.Rows.FnExactRowOrderCardSaid := Go.Proofs.YthbibdpbfgoghaaGreatDoor.fnExactRowOrder.card Go.Proofs.YthbibdpbfgoghaaGreatDoor.R.FnExactRowOrder
end
