import Derived.Test.YtldjfonpegffiaaQx0
import Derived.Deep.Slices
import Derived.ChangeArms
import Derived.WideShapes
namespace Go.Proofs.Ytldjfonpegffiaa.Q
open Go.Deep Go.WideShapes Go.ChangeShapes
open Go.RowKit Go.Proofs.Ytldjfonpegffiaa.Q Go.Proofs.YtldjfonpegffiaaW.PrintWords Go.Proofs.YtldjfonpegffiaaW.PrintLast Go.Proofs.YtldjfonpegffiaaW.PrintMore
/-- Whatever reads as data of type t is told by the kind d, and what it tells meets wf. -/
def Opens {α : Type} (P : Program) (t : TypeId) (d : Kd α) (wf : α → Prop) : Prop :=
  ∀ (H : Type) (enc : TypeId × Value → H) (w : World) (base : Nat) (spare : Nat → Bool) (held : Bool) (fuel : Nat) (cs : List Value) (x : DataW H × List MemPlace),
    DataW.trod enc P w base spare held fuel t cs = some x → ∃ y, d.K w y cs ∧ wf y
theorem opens_int {P : Program} {t : TypeId} {k : IntKind} (ht : P.underlying t = some (.int k)) : Opens P t (Kd.int k) (fun n => (Lit.int k n).wf = true) := by
  intro H enc w base spare held fuel cs x h
  obtain ⟨n, rfl, _, hw⟩ := DataW.trod_int ht h
  exact ⟨n, rfl, hw⟩
theorem opens_bool {P : Program} {t : TypeId} (ht : P.underlying t = some .bool) : Opens P t Kd.bool (fun _ => True) := by
  intro H enc w base spare held fuel cs x h
  obtain ⟨n, rfl, _⟩ := DataW.trod_bool ht h
  exact ⟨n, rfl, trivial⟩
theorem opens_string {P : Program} {t : TypeId} (ht : P.underlying t = some .string) : Opens P t Kd.string (fun s => s.size ≤ maxLen) := by
  intro H enc w base spare held fuel cs x h
  obtain ⟨n, rfl, _, hw⟩ := DataW.trod_string ht h
  exact ⟨n, rfl, hw⟩
theorem addr_add_add (a : Addr) (i j : Nat) : (a.add i).add j = a.add (i + j) := by
  by_cases hi : i = 0
  · subst hi; simp [Addr.add]
  · by_cases hj : j = 0
    · subst hj; simp [Addr.add]
    · simp [Addr.add, hi, hj, Nat.add_assoc]
theorem opens_slice {α : Type} {P : Program} {t e : TypeId} {d : Kd α} {wf : α → Prop} (ht : P.underlying t = some (.slice e)) (hd : Opens P e d wf) (hs : P.cellsOf e = d.sz) :
    Opens P t (Kd.slice e d) (fun l => l.length ≤ maxLen ∧ ∀ y ∈ l, wf y) := by
  intro H enc w base spare held fuel cs x h
  rcases open_slice ht h with ⟨rfl, _⟩ | ⟨a, len, cap, m, n, D, Pl, rfl, hb, hl, hm, hmm, _, hx⟩
  · exact ⟨[], ⟨none, 0, rfl, Nat.le_refl _, Kd.C_nil _ _⟩, by simp, by simp⟩
  · have hlm : len ≤ m := by rw [hmm]; split <;> omega
    have key : ∀ k, k ≤ len → ∃ ys : List α, ys.length = k ∧ ∀ j y, ys[j]? = some y → wf y ∧ ∃ c, c.length = d.sz ∧ d.K w y c ∧ ∀ i u, c[i]? = some u → w.cell? (a.add (j * d.sz + i)) = some u := by
      intro k
      induction k with
      | zero => intro _; exact ⟨[], rfl, fun j y hj => by simp at hj⟩
      | succ k ih =>
        intro hk
        obtain ⟨ys, hy, hall⟩ := ih (by omega)
        obtain ⟨cs', hc, htr⟩ := hx k (by omega)
        obtain ⟨y, hK, hw⟩ := hd H enc w base spare held n cs' _ htr
        rw [hs] at hc
        obtain ⟨_, hlen, hcell⟩ := World.cells?_some hc
        refine ⟨ys ++ [y], by simp [hy], fun j z hj => ?_⟩
        by_cases hjk : j < k
        · exact hall j z (by rw [List.getElem?_append_left (by omega)] at hj; exact hj)
        · have hj2 : j < (ys ++ [y]).length := (List.getElem?_eq_some_iff.1 hj).1
          simp [hy] at hj2
          obtain rfl : j = k := by omega
          rw [List.getElem?_append_right (by omega)] at hj
          simp [hy] at hj
          subst hj
          exact ⟨hw, cs', hlen, hK, fun i u hu => by
            have hi : i < d.sz := by have := (List.getElem?_eq_some_iff.1 hu).1; omega
            rw [← addr_add_add, hcell i hi]; exact hu⟩
    obtain ⟨ys, hy, hall⟩ := key len (Nat.le_refl _)
    subst hy
    have hmx : ys.length ≤ 9223372036854775807 := by have := hl; have h2 := hm; unfold maxLen at h2; omega
    exact ⟨ys, ⟨some a, cap, rfl, hl, rfl, hmx, fun _ => ⟨a, rfl, fun j p hp => (hall j p hp).2⟩⟩, by unfold maxLen; exact hmx, fun y hm' => by
      obtain ⟨j, hj⟩ := List.getElem?_of_mem hm'
      exact (hall j y hj).1⟩
/-- The fields from an offset on. -/
def OpensL {α : Type} (P : Program) (fs : List Field) (off : Nat) (d : Kd α) (wf : α → Prop) : Prop :=
  ∀ (H : Type) (enc : TypeId × Value → H) (w : World) (base : Nat) (spare : Nat → Bool) (held : Bool) (n : Nat) (cs : List Value),
    (∀ f ∈ fs, ∃ x, DataW.trod enc P w base spare held n f.type ((cs.drop f.offset).take (P.cellsOf f.type)) = some x) → cs.length = off + d.sz → ∃ y, d.K w y (cs.drop off) ∧ wf y
theorem opensL_one {α : Type} {P : Program} {f : Field} {d : Kd α} {wf : α → Prop} (h0 : Opens P f.type d wf) (hh : P.cellsOf f.type = d.sz) : OpensL P [f] f.offset d wf := by
  intro H enc w base spare held n cs hf hl
  obtain ⟨x, hx⟩ := hf f (by simp)
  rw [List.take_of_length_le (by rw [List.length_drop]; omega)] at hx
  exact h0 H enc w base spare held n _ x hx
theorem opensL_cons {α β : Type} {P : Program} {f : Field} {fs : List Field} {off : Nat} {d0 : Kd α} {d1 : Kd β} {wf0 : α → Prop} {wf1 : β → Prop} (hh : (f.offset + d0.sz, P.cellsOf f.type) = (off, d0.sz))
    (h0 : Opens P f.type d0 wf0) (h1 : OpensL P fs off d1 wf1) : OpensL P (f :: fs) f.offset (Kd.pair d0 d1) (fun y => wf0 y.1 ∧ wf1 y.2) := by
  intro H enc w base spare held n cs hf hl
  obtain ⟨ho, hs⟩ := Prod.mk.inj hh
  subst ho
  have hl' : cs.length = f.offset + (d0.sz + d1.sz) := hl
  obtain ⟨x, hx⟩ := hf f (by simp)
  rw [hs] at hx
  obtain ⟨y0, hy0, hw0⟩ := h0 H enc w base spare held n _ x hx
  obtain ⟨y1, hy1, hw1⟩ := h1 H enc w base spare held n cs (fun g hg => hf g (List.mem_cons_of_mem _ hg)) (by omega)
  refine ⟨(y0, y1), ⟨_, _, ?_, hy0, hy1⟩, hw0, hw1⟩
  rw [← List.drop_drop]
  exact (List.take_append_drop d0.sz (cs.drop f.offset)).symm
theorem opens_struct {α : Type} {P : Program} {t : TypeId} {fs : Array Field} {off : Nat} {d : Kd α} {wf : α → Prop} (ht : P.underlying t = some (.struct fs)) (hz : (P.cellsOf t, off) = (d.sz, 0)) (h : OpensL P fs.toList off d wf) : Opens P t d wf := by
  intro H enc w base spare held fuel cs x hx
  obtain ⟨hc, rfl⟩ := Prod.mk.inj hz
  obtain ⟨xs, n, _, _, hl, hlen, hall⟩ := DataW.trod_struct ht hx
  obtain ⟨y, hy, hw⟩ := h H enc w base spare held n cs (fun f hf => by
    obtain ⟨i, hi⟩ := List.getElem?_of_mem hf
    have hi' : fs[i]? = some f := by simpa using hi
    have hlt : i < fs.size := (Array.getElem?_eq_some_iff.1 hi').1
    exact ⟨_, (hall i f hi').trans (List.getElem?_eq_getElem (by omega))⟩) (by omega)
  exact ⟨y, by simpa using hy, hw⟩
theorem opens_arg_struct {α : Type} {P : Program} {t : TypeId} {fs : Array Field} {d : Kd α} {wf : α → Prop} (ht : P.underlying t = some (.struct fs)) (ho : Opens P t d wf) {H : Type} {enc : TypeId × Value → H} {W : World} {base b0 : Nat} {spare : Nat → Bool} {held : Bool} {r : Reach} {v : Value} {x : DataW H} {p : List MemPlace}
    (hv : Value.okWide P W r b0 t v) (h : DataW.Trod enc P W base spare held t v x p) : ∃ y, (∃ cs, v = .agg cs ∧ Kd.K d W y cs.toList) ∧ wf y := by
  obtain ⟨cs, rfl, _⟩ := okWide_struct ht hv
  obtain ⟨fuel, hf⟩ := h
  obtain ⟨y, hy, hw⟩ := ho H enc W base spare held fuel _ _ hf
  exact ⟨y, ⟨cs, rfl, hy⟩, hw⟩
theorem opens_arg_slice {α : Type} {P : Program} {t e : TypeId} {d : Kd α} {wf : List α → Prop} (ht : P.underlying t = some (.slice e)) (ho : Opens P t (Kd.slice e d) wf) {H : Type} {enc : TypeId × Value → H} {W : World} {base b0 : Nat} {spare : Nat → Bool} {held : Bool} {r : Reach} {v : Value} {x : DataW H} {p : List MemPlace}
    (hv : Value.okWide P W r b0 t v) (h : DataW.Trod enc P W base spare held t v x p) : ∃ y : List α, (∃ B c, v = .slice B y.length c ∧ y.length ≤ c ∧ Kd.C d W B y.length y) ∧ wf y := by
  obtain ⟨a, len, cap, rfl⟩ := okWide_slice ht hv
  obtain ⟨fuel, hf⟩ := h
  obtain ⟨y, ⟨B, c, he, hl, hc⟩, hw⟩ := ho H enc W base spare held fuel _ _ hf
  simp [Value.cells] at he
  obtain ⟨rfl, rfl, rfl⟩ := he
  exact ⟨y, ⟨_, _, rfl, hl, hc⟩, hw⟩
end Go.Proofs.Ytldjfonpegffiaa.Q
