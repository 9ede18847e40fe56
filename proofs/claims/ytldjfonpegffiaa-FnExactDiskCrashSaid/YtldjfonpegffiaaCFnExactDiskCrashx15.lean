/- A part of the proof that the law FnExactDiskCrash answers true for every input: contracts of functions that it reaches, or its plain law. -/
import Derived.Test.YtldjfonpegffiaaProg
import Derived.Below
import Derived.Deep.Draws
import Derived.Deep.AppendLies
import Derived.Maps.AppendAt
import Derived.OwnWalk
import Derived.Laws.BytesArg
import Derived.Laws.MakeOwn
import Derived.Laws.OwnMore
import Derived.Deep.OwnRows
import Derived.Tactics
import Derived.Lib.ConvBytes
import Derived.Laws.Slices
import Derived.WalkKit
import Derived.KernelRfl
import Derived.RowKit3
import Derived.Deep.LoopGhost
import Derived.Deep.QuietTactic
import Derived.BigQuiet
import Derived.WideLaws
import Derived.Deep.DeepCutAuto
import Derived.Deep.CutBlock
import Derived.Deep.RegionHeld3
import Derived.Laws.Rows
import Derived.Lib.AppendStr
import Derived.ArgAppend
import Derived.Laws.IdiomCopy
import Derived.OrdersHeld
import Derived.Laws.BitsLemmas
import Derived.RowKit
import Derived.Deep.Slices
import Derived.ChangeArms
import Derived.WideShapes
import Derived.Test.YtldjfonpegffiaaCFnExactDiskCrashx0
import Derived.Test.YtldjfonpegffiaaCFnExactDiskCrashx1
import Derived.Test.YtldjfonpegffiaaCFnExactDiskCrashx3
import Derived.Test.YtldjfonpegffiaaCFnExactDiskCrashx4
import Derived.Test.YtldjfonpegffiaaCFnExactDiskCrashx5
import Derived.Test.YtldjfonpegffiaaCFnExactDiskCrashx6
import Derived.Test.YtldjfonpegffiaaCFnExactDiskCrashx7
import Derived.Test.YtldjfonpegffiaaCFnExactDiskCrashx8
import Derived.Test.YtldjfonpegffiaaCFnExactDiskCrashx9
import Derived.Test.YtldjfonpegffiaaCFnExactDiskCrashx11
import Derived.Test.YtldjfonpegffiaaCFnExactDiskCrashx12
import Derived.Test.YtldjfonpegffiaaCFnExactDiskCrashx14
namespace Go.Proofs.Ytldjfonpegffiaa.Q
open Go.Deep Go.WideShapes Go.ChangeShapes
open Go.RowKit Go.Proofs.Ytldjfonpegffiaa.Q Go.Proofs.YtldjfonpegffiaaW.PrintWords Go.Proofs.YtldjfonpegffiaaW.PrintLast Go.Proofs.YtldjfonpegffiaaW.PrintMore
set_option linter.unusedVariables false
set_option linter.unusedSimpArgs false
/-- Whatever reads as data of type t is told by the kind d, and what it tells meets wf. -/
def Opens {α : Type} (P : Program) (t : TypeId) (d : Kd α) (wf : α → Prop) : Prop :=
  ∀ (H : Type) (enc : TypeId × Value → H) (w : World) (base : Nat) (spare : Nat → Bool) (held : Bool) (fuel : Nat) (cs : List Value) (x : DataW H × List MemPlace),
    DataW.trod enc P w base spare held fuel t cs = some x → ∃ y, d.K w y cs ∧ wf y
theorem opens_int {P : Program} {t : TypeId} {k : IntKind} (ht : P.underlying t = some (.int k)) : Opens P t (Kd.int k) (fun n => (Lit.int k n).wf = true) := by
  intro H enc w base spare held fuel cs x h
  obtain ⟨n, rfl, _, hw⟩ := DataW.trod_int ht h
  exact ⟨n, rfl, hw⟩
theorem opens_string {P : Program} {t : TypeId} (ht : P.underlying t = some .string) : Opens P t Kd.string (fun s => s.size ≤ maxLen) := by
  intro H enc w base spare held fuel cs x h
  obtain ⟨n, rfl, _, hw⟩ := DataW.trod_string ht h
  exact ⟨n, rfl, hw⟩
theorem addr_add_add (a : Addr) (i j : Nat) : (a.add i).add j = a.add (i + j) := by
  by_cases hi : i = 0
  · subst hi; simp [Addr.add]
  · by_cases hj : j = 0
    · subst hj; simp [Addr.add]
    · simp [Addr.add, hi, hj, Nat.add_assoc]
theorem opens_slice {α : Type} {P : Program} {t e : TypeId} {d : Kd α} {wf : α → Prop} (ht : P.underlying t = some (.slice e)) (hd : Opens P e d wf) (hs : P.cellsOf e = d.sz) :
    Opens P t (Kd.slice e d) (fun l => l.length ≤ maxLen ∧ ∀ y ∈ l, wf y) := by
  intro H enc w base spare held fuel cs x h
  rcases open_slice ht h with ⟨rfl, _⟩ | ⟨a, len, cap, m, n, D, Pl, rfl, hb, hl, hm, hmm, _, hx⟩
  · exact ⟨[], ⟨none, 0, rfl, Nat.le_refl _, Kd.C_nil _ _⟩, by simp, by simp⟩
  · have hlm : len ≤ m := by rw [hmm]; split <;> omega
    have key : ∀ k, k ≤ len → ∃ ys : List α, ys.length = k ∧ ∀ j y, ys[j]? = some y → wf y ∧ ∃ c, c.length = d.sz ∧ d.K w y c ∧ ∀ i u, c[i]? = some u → w.cell? (a.add (j * d.sz + i)) = some u := by
      intro k
      induction k with
      | zero => intro _; exact ⟨[], rfl, fun j y hj => by simp at hj⟩
      | succ k ih =>
        intro hk
        obtain ⟨ys, hy, hall⟩ := ih (by omega)
        obtain ⟨cs', hc, htr⟩ := hx k (by omega)
        obtain ⟨y, hK, hw⟩ := hd H enc w base spare held n cs' _ htr
        rw [hs] at hc
        obtain ⟨_, hlen, hcell⟩ := World.cells?_some hc
        refine ⟨ys ++ [y], by simp [hy], fun j z hj => ?_⟩
        by_cases hjk : j < k
        · exact hall j z (by rw [List.getElem?_append_left (by omega)] at hj; exact hj)
        · have hj2 : j < (ys ++ [y]).length := (List.getElem?_eq_some_iff.1 hj).1
          simp [hy] at hj2
          obtain rfl : j = k := by omega
          rw [List.getElem?_append_right (by omega)] at hj
          simp [hy] at hj
          subst hj
          exact ⟨hw, cs', hlen, hK, fun i u hu => by
            have hi : i < d.sz := by have := (List.getElem?_eq_some_iff.1 hu).1; omega
            rw [← addr_add_add, hcell i hi]; exact hu⟩
    obtain ⟨ys, hy, hall⟩ := key len (Nat.le_refl _)
    subst hy
    have hmx : ys.length ≤ 9223372036854775807 := by have := hl; have h2 := hm; unfold maxLen at h2; omega
    exact ⟨ys, ⟨some a, cap, rfl, hl, rfl, hmx, fun _ => ⟨a, rfl, fun j p hp => (hall j p hp).2⟩⟩, by unfold maxLen; exact hmx, fun y hm' => by
      obtain ⟨j, hj⟩ := List.getElem?_of_mem hm'
      exact (hall j y hj).1⟩
/-- The fields from an offset on. -/
def OpensL {α : Type} (P : Program) (fs : List Field) (off : Nat) (d : Kd α) (wf : α → Prop) : Prop :=
  ∀ (H : Type) (enc : TypeId × Value → H) (w : World) (base : Nat) (spare : Nat → Bool) (held : Bool) (n : Nat) (cs : List Value),
    (∀ f ∈ fs, ∃ x, DataW.trod enc P w base spare held n f.type ((cs.drop f.offset).take (P.cellsOf f.type)) = some x) → cs.length = off + d.sz → ∃ y, d.K w y (cs.drop off) ∧ wf y
theorem opensL_one {α : Type} {P : Program} {f : Field} {d : Kd α} {wf : α → Prop} (h0 : Opens P f.type d wf) (hh : P.cellsOf f.type = d.sz) : OpensL P [f] f.offset d wf := by
  intro H enc w base spare held n cs hf hl
  obtain ⟨x, hx⟩ := hf f (by simp)
  rw [List.take_of_length_le (by rw [List.length_drop]; omega)] at hx
  exact h0 H enc w base spare held n _ x hx
theorem opensL_cons {α β : Type} {P : Program} {f : Field} {fs : List Field} {off : Nat} {d0 : Kd α} {d1 : Kd β} {wf0 : α → Prop} {wf1 : β → Prop} (hh : (f.offset + d0.sz, P.cellsOf f.type) = (off, d0.sz))
    (h0 : Opens P f.type d0 wf0) (h1 : OpensL P fs off d1 wf1) : OpensL P (f :: fs) f.offset (Kd.pair d0 d1) (fun y => wf0 y.1 ∧ wf1 y.2) := by
  intro H enc w base spare held n cs hf hl
  obtain ⟨ho, hs⟩ := Prod.mk.inj hh
  subst ho
  have hl' : cs.length = f.offset + (d0.sz + d1.sz) := hl
  obtain ⟨x, hx⟩ := hf f (by simp)
  rw [hs] at hx
  obtain ⟨y0, hy0, hw0⟩ := h0 H enc w base spare held n _ x hx
  obtain ⟨y1, hy1, hw1⟩ := h1 H enc w base spare held n cs (fun g hg => hf g (List.mem_cons_of_mem _ hg)) (by omega)
  refine ⟨(y0, y1), ⟨_, _, ?_, hy0, hy1⟩, hw0, hw1⟩
  rw [← List.drop_drop]
  exact (List.take_append_drop d0.sz (cs.drop f.offset)).symm
theorem opens_struct {α : Type} {P : Program} {t : TypeId} {fs : Array Field} {off : Nat} {d : Kd α} {wf : α → Prop} (ht : P.underlying t = some (.struct fs)) (hz : (P.cellsOf t, off) = (d.sz, 0)) (h : OpensL P fs.toList off d wf) : Opens P t d wf := by
  intro H enc w base spare held fuel cs x hx
  obtain ⟨hc, rfl⟩ := Prod.mk.inj hz
  obtain ⟨xs, n, _, _, hl, hlen, hall⟩ := DataW.trod_struct ht hx
  obtain ⟨y, hy, hw⟩ := h H enc w base spare held n cs (fun f hf => by
    obtain ⟨i, hi⟩ := List.getElem?_of_mem hf
    have hi' : fs[i]? = some f := by simpa using hi
    have hlt : i < fs.size := (Array.getElem?_eq_some_iff.1 hi').1
    exact ⟨_, (hall i f hi').trans (List.getElem?_eq_getElem (by omega))⟩) (by omega)
  exact ⟨y, by simpa using hy, hw⟩
theorem opens_arg_struct {α : Type} {P : Program} {t : TypeId} {fs : Array Field} {d : Kd α} {wf : α → Prop} (ht : P.underlying t = some (.struct fs)) (ho : Opens P t d wf) {H : Type} {enc : TypeId × Value → H} {W : World} {base b0 : Nat} {spare : Nat → Bool} {held : Bool} {r : Reach} {v : Value} {x : DataW H} {p : List MemPlace}
    (hv : Value.okWide P W r b0 t v) (h : DataW.Trod enc P W base spare held t v x p) : ∃ y, (∃ cs, v = .agg cs ∧ Kd.K d W y cs.toList) ∧ wf y := by
  obtain ⟨cs, rfl, _⟩ := okWide_struct ht hv
  obtain ⟨fuel, hf⟩ := h
  obtain ⟨y, hy, hw⟩ := ho H enc W base spare held fuel _ _ hf
  exact ⟨y, ⟨cs, rfl, hy⟩, hw⟩
end Go.Proofs.Ytldjfonpegffiaa.Q

namespace Go.Proofs.Ytldjfonpegffiaa.Q
open Go.RowKit Go.Proofs.Ytldjfonpegffiaa.Q Go.Proofs.YtldjfonpegffiaaW.PrintWords Go.Proofs.YtldjfonpegffiaaW.PrintLast Go.Proofs.YtldjfonpegffiaaW.PrintMore
def wf117 (x : S117) : Prop := (fun n => (Lit.int .i64 n).wf = true) x.f0 ∧ (fun s => s.size ≤ maxLen) x.f1
theorem opens117 : Opens Try.prog 117 k117 wf117 := by
  intro H enc w base spare held fuel cs x h
  obtain ⟨y, hy, hw⟩ := opens_struct Try.underlying117 (by kernel_rfl) (opensL_cons (by kernel_rfl) (opens_int Try.underlying3) (opensL_one (opens_string Try.underlying9) (by kernel_rfl))) H enc w base spare held fuel cs x h
  exact ⟨⟨y.1, y.2⟩, hy, hw⟩
def wf43 (x : S43) : Prop := (fun l => l.length ≤ maxLen ∧ ∀ y ∈ l, (fun s => s.size ≤ maxLen) y) x.f0 ∧ (fun l => l.length ≤ maxLen ∧ ∀ y ∈ l, wf117 y) x.f1 ∧ (fun n => (Lit.int .i64 n).wf = true) x.f2 ∧ (fun n => (Lit.int .i64 n).wf = true) x.f3
theorem opens43 : Opens Try.prog 43 k43 wf43 := by
  intro H enc w base spare held fuel cs x h
  obtain ⟨y, hy, hw⟩ := opens_struct Try.underlying43 (by kernel_rfl) (opensL_cons (by kernel_rfl) (opens_slice Try.underlying27 (opens_string Try.underlying9) (by kernel_rfl)) (opensL_cons (by kernel_rfl) (opens_slice Try.underlying41 opens117 (by kernel_rfl)) (opensL_cons (by kernel_rfl) (opens_int Try.underlying3) (opensL_one (opens_int Try.underlying3) (by kernel_rfl))))) H enc w base spare held fuel cs x h
  exact ⟨⟨y.1, y.2.1, y.2.2.1, y.2.2.2⟩, hy, hw⟩
end Go.Proofs.Ytldjfonpegffiaa.Q

namespace Go.Proofs.Ytldjfonpegffiaa.Q
open Go.RowKit
open Go.RowKit Go.Proofs.Ytldjfonpegffiaa.Q Go.Proofs.YtldjfonpegffiaaW.PrintWords Go.Proofs.YtldjfonpegffiaaW.PrintLast Go.Proofs.YtldjfonpegffiaaW.PrintMore
/-- The pure statement of laws_FnExactDiskCrash. -/
def laws_FnExactDiskCrash.Pure : Prop := ∀ (x0 : S43) (x1 : Int) (x2 : Int) (x3 : Int), wf43 x0 → (fun n => (Lit.int .i64 n).wf = true) x1 → (fun n => (Lit.int .i64 n).wf = true) x2 → (fun n => (Lit.int .i64 n).wf = true) x3 → ∃ k, laws_FnExactDiskCrash.f k x0.f0 x0.f1 x0.f2 x0.f3 x1 x2 x3 = some true
end Go.Proofs.Ytldjfonpegffiaa.Q

namespace Go.Proofs.Ytldjfonpegffiaa.Q
open Go.RowKit Go.Proofs.Ytldjfonpegffiaa.Q Go.Proofs.YtldjfonpegffiaaW.PrintWords Go.Proofs.YtldjfonpegffiaaW.PrintLast Go.Proofs.YtldjfonpegffiaaW.PrintMore
set_option linter.unusedVariables false
set_option linter.unusedSimpArgs false
theorem wrap64_id {n : Int} (h0 : -9223372036854775808 ≤ n) (h1 : n ≤ 9223372036854775807) : wrap64 n = n := by unfold wrap64; omega
theorem tmod_range {a n : Int} (ha : 0 ≤ a) (hn : 1 ≤ n) : 0 ≤ Int.tmod a n ∧ Int.tmod a n < n := by
  rw [Int.tmod_eq_emod_of_nonneg ha]
  exact ⟨Int.emod_nonneg _ (by omega), Int.emod_lt_of_pos _ (by omega)⟩
end Go.Proofs.Ytldjfonpegffiaa.Q

namespace Go.Proofs.Ytldjfonpegffiaa.Q
open Go.RowKit Go.Proofs.Ytldjfonpegffiaa.Q Go.Proofs.YtldjfonpegffiaaW.PrintWords Go.Proofs.YtldjfonpegffiaaW.PrintLast Go.Proofs.YtldjfonpegffiaaW.PrintMore
set_option linter.unusedVariables false
set_option linter.unusedSimpArgs false
def mt (n : Int) : ByteArray := (laws_markText.f 64 n).getD ⟨#[]⟩
theorem markText_l0 : ∀ (j : Nat) (n : Int) (s : ByteArray), 0 ≤ n → n ≤ 1000000000000000000 → n < 10 ^ j → s.size + j ≤ 1000 → ∃ r, laws_markText.l0 (j + 1) n s = some r := by
  intro j
  induction j with
  | zero =>
    intro n s h0 hbig h1 hs
    simp only [laws_markText.l0]
    rw [if_neg (by omega), if_pos (by omega)]
    exact ⟨_, rfl⟩
  | succ j ih =>
    intro n s h0 hbig h1 hs
    rw [laws_markText.l0]
    by_cases hn : n > 0
    · rw [if_pos hn]
      simp only [Option.bind_some]
      have hd : Int.tdiv n 10 = n / 10 := Int.tdiv_eq_ediv_of_nonneg h0
      have hb : (10 : Int) ^ (j + 1) = 10 ^ j * 10 := Int.pow_succ ..
      have hw : wrap64 (Int.tdiv n 10) = n / 10 := by rw [hd]; exact wrap64_id (by omega) (by omega)
      rw [if_pos (by rw [strOfNums_size]; simp only [List.length_singleton]; omega), hw]
      refine ih _ _ (by omega) (by omega) (by omega) ?_
      rw [ba_append_size, strOfNums_size]
      simp only [List.length_singleton]
      omega
    · rw [if_neg hn, if_pos (by omega)]
      exact ⟨_, rfl⟩
theorem mt_ev (n : Int) (h : n ≤ 1000000000000000000) : Ev (fun k => laws_markText.f k n) (mt n) := by
  have hs : ∃ r, laws_markText.f 64 n = some r := by
    unfold laws_markText.f
    by_cases hn : n ≤ 0
    · rw [if_pos hn]; exact ⟨_, rfl⟩
    · rw [if_neg hn]
      obtain ⟨r, hr⟩ := markText_l0 19 n ⟨#[]⟩ (by omega) h (by omega) (by decide)
      exact ⟨r, at_rounds (fun k => laws_markText.mono_l k _ _) (by omega) hr⟩
  obtain ⟨r, hr⟩ := hs
  have : mt n = r := by unfold mt; rw [hr]; rfl
  rw [this]
  exact Ev.of (laws_markText.mono n) hr
theorem laws_eqStringS_loop (l : List ByteArray) (hl : (l.length : Int) ≤ 4611686018427387904) : ∀ (d : Nat) (i : Int), 0 ≤ i → (l.length : Int) - i = d → Ev (fun k => laws_eqStringS.l0 k l l i) true := by
  intro d
  induction d with
  | zero =>
    intro i h0 hd
    exact Ev.step (f := fun _ => some true) (fun k => by simp only [laws_eqStringS.l0]; rw [if_neg (by omega)]) (Ev.now _)
  | succ d ih =>
    intro i h0 hd
    have hlt : i < (l.length : Int) := by omega
    have ei : wrap64 (i + 1) = i + 1 := wrap64_id (by omega) (by omega)
    exact Ev.step (fun k => by rw [laws_eqStringS.l0, if_pos hlt, if_pos h0, if_pos hlt, if_pos rfl, ei]) (ih (i + 1) (by omega) (by omega))
theorem laws_eqStringS_ev (x0 : List ByteArray) (h0 : (x0.length : Int) ≤ 4611686018427387904) : Ev (fun k => laws_eqStringS.f k x0 x0) true := by
  unfold laws_eqStringS.f
  exact Ev.congr (fun k => if_pos rfl) (laws_eqStringS_loop x0 h0 x0.length 0 (by omega) (by omega))
theorem laws_eqWait_ev (x0 : Int) (x1 : ByteArray)  : Ev (fun k => laws_eqWait.f x0 x1 x0 x1) true := by
  unfold laws_eqWait.f
  try simp only [if_true]
  try simp only [if_true]
  exact Ev.now _
theorem laws_eqWaitS_loop (l : List (S54)) (hl : (l.length : Int) ≤ 4611686018427387904) : ∀ (d : Nat) (i : Int), 0 ≤ i → (l.length : Int) - i = d → Ev (fun k => laws_eqWaitS.l0 k l l i) true := by
  intro d
  induction d with
  | zero =>
    intro i h0 hd
    exact Ev.step (f := fun _ => some true) (fun k => by simp only [laws_eqWaitS.l0]; rw [if_neg (by omega)]) (Ev.now _)
  | succ d ih =>
    intro i h0 hd
    have hlt : i < (l.length : Int) := by omega
    have ei : wrap64 (i + 1) = i + 1 := wrap64_id (by omega) (by omega)
    exact Ev.step (fun k => by rw [laws_eqWaitS.l0, if_pos hlt, if_pos h0, if_pos hlt, ei]) (Ev.bind (laws_eqWait_ev ((rd_T54 l i).f0) ((rd_T54 l i).f1) ) (Ev.congr (fun k => if_pos rfl) (ih (i + 1) (by omega) (by omega))))
theorem laws_eqWaitS_ev (x0 : List (S54)) (h0 : (x0.length : Int) ≤ 4611686018427387904) : Ev (fun k => laws_eqWaitS.f k x0 x0) true := by
  unfold laws_eqWaitS.f
  exact Ev.congr (fun k => if_pos rfl) (laws_eqWaitS_loop x0 h0 x0.length 0 (by omega) (by omega))
theorem laws_eqDisk_ev (x0 : List ByteArray) (x1 : List (S54)) (x2 : Int) (x3 : Int) (h0 : (x0.length : Int) ≤ 4611686018427387904) (h1 : (x1.length : Int) ≤ 4611686018427387904) : Ev (fun k => laws_eqDisk.f k x0 x1 x2 x3 x0 x1 x2 x3) true := by
  unfold laws_eqDisk.f
  refine Ev.bind (laws_eqStringS_ev x0 h0) (Ev.congr (fun k => if_pos rfl) ?_)
  refine Ev.bind (laws_eqWaitS_ev x1 h1) (Ev.congr (fun k => if_pos rfl) ?_)
  try simp only [if_true]
  try simp only [if_true]
  exact Ev.now _
theorem laws_szStringS_loop (l : List ByteArray) (hl : (l.length : Int) ≤ 4611686018427387904) (hw : ∀ y ∈ l, (fun s => s.size ≤ maxLen) y) : ∀ (d : Nat) (i a : Int), 0 ≤ i → i ≤ (l.length : Int) → (l.length : Int) - i = d → 0 ≤ a → a ≤ 1048576 →
    ∃ r, Ev (fun k => laws_szStringS.l0 k l a i) r ∧ (r = -1 ∨ (0 ≤ r ∧ r ≤ a ∧ ∀ y ∈ l.drop i.toNat, y.size ≤ 1048576)) := by
  intro d
  induction d with
  | zero =>
    intro i a h0 h1 hd ha hb
    have e : i.toNat = l.length := by omega
    exact ⟨a, Ev.step (f := fun _ => some a) (fun k => by simp only [laws_szStringS.l0]; rw [if_neg (by omega)]) (Ev.now a), .inr ⟨ha, Int.le_refl _, fun y hy => by rw [e, List.drop_length] at hy; cases hy⟩⟩
  | succ d ih =>
    intro i a h0 h1 hd ha hb
    have hlt : i < (l.length : Int) := by omega
    have ei : wrap64 (i + 1) = i + 1 := wrap64_id (by omega) (by omega)
    have hdrop : l.drop i.toNat = rdOf ByteArray.empty l i :: l.drop (i + 1).toNat := by
      have e : (i + 1).toNat = i.toNat + 1 := by omega
      rw [e, List.drop_eq_getElem_cons (by omega)]
      congr 1
      simp only [rdOf]
      rw [List.getD_eq_getElem?_getD, List.getElem?_eq_getElem (by omega)]
      rfl
    have hmem : rdOf ByteArray.empty l i ∈ l := List.mem_of_mem_drop (i := i.toNat) (by rw [hdrop]; exact List.mem_cons_self)
    have hwy := hw _ hmem
    have hsz : ((rdOf ByteArray.empty l i).size : Int) ≤ 9223372036854775807 := by have : (rdOf ByteArray.empty l i).size ≤ maxLen := hwy; unfold maxLen at this; omega
    have ew : wrap64 (a - ((rdOf ByteArray.empty l i).size : Int)) = a - ((rdOf ByteArray.empty l i).size : Int) := wrap64_id (by omega) (by omega)
    by_cases hn : a - ((rdOf ByteArray.empty l i).size : Int) < 0
    · exact ⟨-1, Ev.step (f := fun _ => some (-1)) (fun k => by simp only [laws_szStringS.l0]; rw [if_pos hlt, if_pos h0, ew, if_pos hn]) (Ev.now _), .inl rfl⟩
    · obtain ⟨r, hr, hc⟩ := ih (i + 1) (a - ((rdOf ByteArray.empty l i).size : Int)) (by omega) (by omega) (by omega) (by omega) (by omega)
      refine ⟨r, Ev.step (fun k => by simp only [laws_szStringS.l0]; rw [if_pos hlt, if_pos h0, ew, if_neg hn, ei]) hr, ?_⟩
      rcases hc with hc | ⟨hc0, hc1, hc2⟩
      · exact .inl hc
      · refine .inr ⟨hc0, by omega, fun y hy => ?_⟩
        rw [hdrop] at hy
        rcases List.mem_cons.1 hy with rfl | hy
        · omega
        · exact hc2 y hy
theorem laws_szStringS_ev (x0 : List ByteArray) (a : Int) (h0 : 0 ≤ a) (h1 : a ≤ 1048576) (w0 : (fun l => l.length ≤ maxLen ∧ ∀ y ∈ l, (fun s => s.size ≤ maxLen) y) x0) : ∃ r, Ev (fun k => laws_szStringS.f k x0 a) r ∧ (r = -1 ∨ (0 ≤ r ∧ r ≤ a ∧ (x0.length ≤ 1048576 ∧ ∀ y ∈ x0, y.size ≤ 1048576))) := by
  have hl : (x0.length : Int) ≤ 9223372036854775807 := by have := w0.1; unfold maxLen at this; omega
  have e : wrap64 (a - (x0.length : Int)) = a - (x0.length : Int) := wrap64_id (by omega) (by omega)
  unfold laws_szStringS.f
  rw [e]
  by_cases h : a - (x0.length : Int) < 0
  · exact ⟨-1, ⟨0, fun k _ => by simp only [if_pos h]⟩, .inl rfl⟩
  · obtain ⟨r, hr, hc⟩ := laws_szStringS_loop x0 (by omega) w0.2 x0.length 0 (a - (x0.length : Int)) (by omega) (by omega) (by omega) (by omega) (by omega)
    refine ⟨r, Ev.congr (fun k => if_neg h) hr, ?_⟩
    rcases hc with hc | ⟨hc0, hc1, hc2⟩
    · exact .inl hc
    · exact .inr ⟨hc0, by omega, by omega, by simpa using hc2⟩
def sm117 (x : S117) : Prop := True ∧ x.f1.size ≤ 1048576
theorem laws_szWait_ev (x0 : Int) (x1 : ByteArray) (a : Int) (h0 : 0 ≤ a) (h1 : a ≤ 1048576) (w1 : (fun s => s.size ≤ maxLen) x1) : ∃ r, Ev (fun k => laws_szWait.f x0 x1 a) r ∧ (r = -1 ∨ (0 ≤ r ∧ r ≤ a ∧ x1.size ≤ 1048576)) := by
  unfold laws_szWait.f
  have e1 : wrap64 (a - (x1.size : Int)) = a - (x1.size : Int) := by have hz : x1.size ≤ maxLen := w1; unfold maxLen at hz; exact wrap64_id (by omega) (by omega)
  rw [e1]
  by_cases hn1 : a - (x1.size : Int) < 0
  · exact ⟨-1, Ev.congr (fun k => if_pos hn1) (Ev.now _), .inl rfl⟩
  exact ⟨(a - (x1.size : Int)), Ev.congr (fun k => if_neg hn1) (Ev.now _), .inr ⟨by omega, by omega, (by omega)⟩⟩
theorem laws_szWaitS_loop (l : List (S117)) (hl : (l.length : Int) ≤ 4611686018427387904) (hw : ∀ y ∈ l, wf117 y) : ∀ (d : Nat) (i a : Int), 0 ≤ i → i ≤ (l.length : Int) → (l.length : Int) - i = d → 0 ≤ a → a ≤ 1048576 →
    ∃ r, Ev (fun k => laws_szWaitS.l0 k l a i) r ∧ (r = -1 ∨ (0 ≤ r ∧ r ≤ a ∧ ∀ y ∈ l.drop i.toNat, sm117 y)) := by
  intro d
  induction d with
  | zero =>
    intro i a h0 h1 hd ha hb
    have e : i.toNat = l.length := by omega
    exact ⟨a, Ev.step (f := fun _ => some a) (fun k => by simp only [laws_szWaitS.l0]; rw [if_neg (by omega)]) (Ev.now a), .inr ⟨ha, Int.le_refl _, fun y hy => by rw [e, List.drop_length] at hy; cases hy⟩⟩
  | succ d ih =>
    intro i a h0 h1 hd ha hb
    have hlt : i < (l.length : Int) := by omega
    have ei : wrap64 (i + 1) = i + 1 := wrap64_id (by omega) (by omega)
    have hdrop : l.drop i.toNat = rd_T117 l i :: l.drop (i + 1).toNat := by
      have e : (i + 1).toNat = i.toNat + 1 := by omega
      rw [e, List.drop_eq_getElem_cons (by omega)]
      congr 1
      simp only [rd_T117]
      rw [List.getD_eq_getElem?_getD, List.getElem?_eq_getElem (by omega)]
      rfl
    have hmem : rd_T117 l i ∈ l := List.mem_of_mem_drop (i := i.toNat) (by rw [hdrop]; exact List.mem_cons_self)
    have hwy := hw _ hmem
    obtain ⟨r1, hr1, hc1⟩ := laws_szWait_ev ((rd_T117 l i).f0) ((rd_T117 l i).f1) a ha hb hwy.2
    have hst : ∀ k, laws_szWaitS.l0 (k + 1) l a i = (laws_szWait.f ((rd_T117 l i).f0) ((rd_T117 l i).f1) a).bind fun t => (if t < 0 then (some (-1)) else (laws_szWaitS.l0 k l t (i + 1))) := fun k => by
      rw [laws_szWaitS.l0, if_pos hlt, if_pos h0, ei]
    rcases hc1 with rfl | ⟨hc10, hc11, hc12⟩
    · exact ⟨-1, Ev.step hst (Ev.bind hr1 (Ev.congr (fun k => if_pos (by decide)) (Ev.now _))), .inl rfl⟩
    · obtain ⟨r, hr, hc⟩ := ih (i + 1) r1 (by omega) (by omega) (by omega) hc10 (by omega)
      refine ⟨r, Ev.step hst (Ev.bind hr1 (Ev.congr (fun k => if_neg (by omega)) hr)), ?_⟩
      rcases hc with hc | ⟨hc0, hc1, hc2⟩
      · exact .inl hc
      · refine .inr ⟨hc0, by omega, fun y hy => ?_⟩
        rw [hdrop] at hy
        rcases List.mem_cons.1 hy with rfl | hy
        · exact ⟨trivial, hc12⟩
        · exact hc2 y hy
theorem laws_szWaitS_ev (x0 : List (S117)) (a : Int) (h0 : 0 ≤ a) (h1 : a ≤ 1048576) (w0 : (fun l => l.length ≤ maxLen ∧ ∀ y ∈ l, wf117 y) x0) : ∃ r, Ev (fun k => laws_szWaitS.f k x0 a) r ∧ (r = -1 ∨ (0 ≤ r ∧ r ≤ a ∧ (x0.length ≤ 1048576 ∧ ∀ y ∈ x0, sm117 y))) := by
  have hl : (x0.length : Int) ≤ 9223372036854775807 := by have := w0.1; unfold maxLen at this; omega
  have e : wrap64 (a - (x0.length : Int)) = a - (x0.length : Int) := wrap64_id (by omega) (by omega)
  unfold laws_szWaitS.f
  rw [e]
  by_cases h : a - (x0.length : Int) < 0
  · exact ⟨-1, ⟨0, fun k _ => by simp only [if_pos h]⟩, .inl rfl⟩
  · obtain ⟨r, hr, hc⟩ := laws_szWaitS_loop x0 (by omega) w0.2 x0.length 0 (a - (x0.length : Int)) (by omega) (by omega) (by omega) (by omega) (by omega)
    refine ⟨r, Ev.congr (fun k => if_neg h) hr, ?_⟩
    rcases hc with hc | ⟨hc0, hc1, hc2⟩
    · exact .inl hc
    · exact .inr ⟨hc0, by omega, by omega, by simpa using hc2⟩
theorem laws_szDisk_ev (x0 : List ByteArray) (x1 : List (S117)) (x2 : Int) (x3 : Int) (a : Int) (h0 : 0 ≤ a) (h1 : a ≤ 1048576) (w0 : (fun l => l.length ≤ maxLen ∧ ∀ y ∈ l, (fun s => s.size ≤ maxLen) y) x0) (w1 : (fun l => l.length ≤ maxLen ∧ ∀ y ∈ l, wf117 y) x1) : ∃ r, Ev (fun k => laws_szDisk.f k x0 x1 x2 x3 a) r ∧ (r = -1 ∨ (0 ≤ r ∧ r ≤ a ∧ (x0.length ≤ 1048576 ∧ ∀ y ∈ x0, y.size ≤ 1048576) ∧ (x1.length ≤ 1048576 ∧ ∀ y ∈ x1, sm117 y))) := by
  unfold laws_szDisk.f
  obtain ⟨r0, hr0, hc0⟩ := laws_szStringS_ev x0 a (by omega) (by omega) w0
  rcases hc0 with rfl | ⟨hl0, hu0, hq0_0⟩
  · exact ⟨-1, Ev.bind hr0 (Ev.congr (fun k => if_pos (by decide)) (Ev.now _)), .inl rfl⟩
  obtain ⟨r1, hr1, hc1⟩ := laws_szWaitS_ev x1 r0 (by omega) (by omega) w1
  rcases hc1 with rfl | ⟨hl1, hu1, hq1_1⟩
  · exact ⟨-1, Ev.bind hr0 (Ev.congr (fun k => if_neg (by omega)) (Ev.bind hr1 (Ev.congr (fun k => if_pos (by decide)) (Ev.now _)))), .inl rfl⟩
  exact ⟨r1, Ev.bind hr0 (Ev.congr (fun k => if_neg (by omega)) (Ev.bind hr1 (Ev.congr (fun k => if_neg (by omega)) (Ev.now _)))), .inr ⟨by omega, by omega, hq0_0, hq1_1⟩⟩
theorem laws_toStringS_loop (l : List ByteArray) (hl : (l.length : Int) ≤ 1099511627776) : ∀ (d : Nat) (i : Int) (acc : List ByteArray), 0 ≤ i → (l.length : Int) - i = d → acc.length = l.length → (∀ j : Nat, (j : Int) < i → acc[j]? = (l)[j]?) →
    Ev (fun k => laws_toStringS.l0 k l acc i) (l) := by
  intro d
  induction d with
  | zero =>
    intro i acc h0 hd ha hj
    have e : acc = l := by
      apply List.ext_getElem?
      intro j
      by_cases hlt : (j : Int) < i
      · exact hj j hlt
      · rw [List.getElem?_eq_none (by omega), List.getElem?_eq_none (by omega)]
    rw [e]
    exact Ev.step (f := fun _ => some l) (fun k => by simp only [laws_toStringS.l0]; rw [if_neg (by omega)]) (Ev.now _)
  | succ d ih =>
    intro i acc h0 hd ha hj
    have hlt : i < (l.length : Int) := by omega
    have ei : wrap64 (i + 1) = i + 1 := wrap64_id (by omega) (by omega)
    have hget : l[i.toNat]? = some (rdOf ByteArray.empty l i) := by
      simp only [rdOf]
      rw [List.getD_eq_getElem?_getD, List.getElem?_eq_getElem (by omega)]
      rfl
    have hnx := ih (i + 1) (acc.set i.toNat (rdOf ByteArray.empty l i)) (by omega) (by omega) (by simpa using ha) (fun j hji => by
      by_cases hj2 : j = i.toNat
      · subst hj2
        rw [List.getElem?_set_self (by omega), hget]
        try rfl
      · rw [List.getElem?_set_ne (by omega)]
        exact hj j (by omega))
    exact Ev.step (fun k => by simp only [laws_toStringS.l0]; rw [if_pos hlt, if_pos h0, if_pos (by omega), ei]) hnx
theorem laws_toStringS_ev (x0 : List ByteArray) (h0 : (x0.length ≤ 1048576 ∧ ∀ y ∈ x0, y.size ≤ 1048576)) : Ev (fun k => laws_toStringS.f k x0) x0 := by
  have hl : (x0.length : Int) ≤ 1048576 := by have := h0.1; omega
  unfold laws_toStringS.f
  refine Ev.congr (fun k => by rw [if_pos (by omega), if_pos (by omega)]) (laws_toStringS_loop x0 (by omega) x0.length 0 _ (by omega) (by omega) (by simp) (fun j hj => by omega))
def cv117_54 (x : S117) : S54 := ⟨x.f0, x.f1⟩
theorem laws_toWait_ev (x0 : Int) (x1 : ByteArray) (h1 : x1.size ≤ 1048576) : Ev (fun k => laws_toWait.f x0 x1) (x0, x1) := by
  unfold laws_toWait.f
  exact Ev.now _
theorem laws_toWaitS_loop (l : List (S117)) (hl : (l.length : Int) ≤ 1099511627776) (hs : ∀ y ∈ l, sm117 y) : ∀ (d : Nat) (i : Int) (acc : List (S54)), 0 ≤ i → (l.length : Int) - i = d → acc.length = l.length → (∀ j : Nat, (j : Int) < i → acc[j]? = (l.map cv117_54)[j]?) →
    Ev (fun k => laws_toWaitS.l0 k l acc i) (l.map cv117_54) := by
  intro d
  induction d with
  | zero =>
    intro i acc h0 hd ha hj
    have e : acc = (l.map cv117_54) := by
      apply List.ext_getElem?
      intro j
      by_cases hlt : (j : Int) < i
      · exact hj j hlt
      · rw [List.getElem?_eq_none (by omega), List.getElem?_eq_none (by rw [List.length_map]; omega)]
    rw [e]
    exact Ev.step (f := fun _ => some (l.map cv117_54)) (fun k => by simp only [laws_toWaitS.l0]; rw [if_neg (by omega)]) (Ev.now _)
  | succ d ih =>
    intro i acc h0 hd ha hj
    have hlt : i < (l.length : Int) := by omega
    have ei : wrap64 (i + 1) = i + 1 := wrap64_id (by omega) (by omega)
    have hget : l[i.toNat]? = some (rd_T117 l i) := by
      simp only [rd_T117]
      rw [List.getD_eq_getElem?_getD, List.getElem?_eq_getElem (by omega)]
      rfl
    have hnx := ih (i + 1) (acc.set i.toNat (cv117_54 (rd_T117 l i))) (by omega) (by omega) (by simpa using ha) (fun j hji => by
      by_cases hj2 : j = i.toNat
      · subst hj2
        rw [List.getElem?_set_self (by omega), List.getElem?_map, hget]
        try rfl
      · rw [List.getElem?_set_ne (by omega)]
        exact hj j (by omega))
    have hmem : rd_T117 l i ∈ l := List.mem_of_getElem? hget
    have hsy := hs _ hmem
    have hr1 := laws_toWait_ev ((rd_T117 l i).f0) ((rd_T117 l i).f1) hsy.2
    exact Ev.step (fun k => by rw [laws_toWaitS.l0, if_pos hlt, if_pos h0, ei]) (Ev.bind hr1 (Ev.congr (fun k => (if_pos (show i < (acc.length : Int) by omega)).trans rfl) hnx))
theorem laws_toWaitS_ev (x0 : List (S117)) (h0 : (x0.length ≤ 1048576 ∧ ∀ y ∈ x0, sm117 y)) : Ev (fun k => laws_toWaitS.f k x0) ((x0).map cv117_54) := by
  have hl : (x0.length : Int) ≤ 1048576 := by have := h0.1; omega
  unfold laws_toWaitS.f
  refine Ev.congr (fun k => by rw [if_pos (by omega), if_pos (by omega)]) (laws_toWaitS_loop x0 (by omega) h0.2 x0.length 0 _ (by omega) (by omega) (by simp) (fun j hj => by omega))
theorem laws_toDisk_ev (x0 : List ByteArray) (x1 : List (S117)) (x2 : Int) (x3 : Int) (h0 : (x0.length ≤ 1048576 ∧ ∀ y ∈ x0, y.size ≤ 1048576)) (h1 : (x1.length ≤ 1048576 ∧ ∀ y ∈ x1, sm117 y)) : Ev (fun k => laws_toDisk.f k x0 x1 x2 x3) (x0, (x1).map cv117_54, x2, x3) := by
  unfold laws_toDisk.f
  refine Ev.bind (laws_toStringS_ev x0 h0) ?_
  refine Ev.bind (laws_toWaitS_ev x1 h1) ?_
  exact Ev.now _
end Go.Proofs.Ytldjfonpegffiaa.Q

namespace Go.Proofs.Ytldjfonpegffiaa.Q
open Go.RowKit Go.Proofs.Ytldjfonpegffiaa.Q Go.Proofs.YtldjfonpegffiaaW.PrintWords Go.Proofs.YtldjfonpegffiaaW.PrintLast Go.Proofs.YtldjfonpegffiaaW.PrintMore
set_option linter.unusedVariables false
set_option linter.unusedSimpArgs false
theorem lit_i64 {n : Int} (h : (Lit.int .i64 n).wf = true) : -9223372036854775808 ≤ n ∧ n ≤ 9223372036854775807 := by
  simp only [Lit.wf, Bool.and_eq_true, decide_eq_true_eq] at h
  have e1 : IntKind.i64.max = 9223372036854775807 := by decide
  have e2 : IntKind.i64.min = -9223372036854775808 := by decide
  omega
/-- A list is marked from `m` on, cell by cell; the next number. -/
def mkl {α : Type} (st : α → Int → α × Int) : List α → Int → List α × Int
  | [], m => ([], m)
  | a :: l, m => ((st a m).1 :: (mkl st l (st a m).2).1, (mkl st l (st a m).2).2)
theorem mkl_len {α : Type} (st : α → Int → α × Int) : ∀ (l : List α) (m : Int), (mkl st l m).1.length = l.length
  | [], _ => rfl
  | a :: l, m => by simp only [mkl, List.length_cons, mkl_len st l]
theorem mkl_le {α : Type} (st : α → Int → α × Int) (P : α → Prop) (c : Int) (hm : ∀ a m, P a → m ≤ (st a m).2 ∧ (st a m).2 ≤ m + c) :
    ∀ (l : List α) (m : Int), (∀ a ∈ l, P a) → m ≤ (mkl st l m).2 ∧ (mkl st l m).2 ≤ m + c * (l.length : Int)
  | [], m, _ => by simp [mkl]
  | a :: l, m, hP => by
    have h1 := hm a m (hP a (List.mem_cons_self ..))
    have h2 := mkl_le st P c hm l (st a m).2 (fun b hb => hP b (List.mem_cons_of_mem _ hb))
    have e : c * ((a :: l).length : Int) = c * (l.length : Int) + c := by rw [List.length_cons, Int.natCast_succ, Int.mul_add, Int.mul_one]
    simp only [mkl]
    rw [e]
    generalize c * (l.length : Int) = q at h2 ⊢
    omega
theorem set_pre {α : Type} (pre : List α) (a b : α) (l : List α) : (pre ++ a :: l).set pre.length b = (pre ++ [b]) ++ l := by
  rw [List.set_append_right _ _ (Nat.le_refl _), Nat.sub_self, List.set_cons_zero, List.append_assoc]; rfl
theorem mark_ev {α : Type} (L0 : Nat → List α → Int → Int → Option (Int × List α)) (st : α → Int → α × Int) (P : α → Prop) (c : Int) (hc : 0 ≤ c)
    (hm : ∀ a m, P a → m ≤ (st a m).2 ∧ (st a m).2 ≤ m + c)
    (hend : ∀ (xs : List α) (m i : Int), ¬ i < (xs.length : Int) → Ev (fun k => L0 k xs m i) (m, xs))
    (hstep : ∀ (xs : List α) (m i : Int) (a : α) (r : Int × List α), 0 ≤ i → i < (xs.length : Int) → (xs.length : Int) ≤ 1152921504606846976 → xs[i.toNat]? = some a → P a → 1 ≤ m → m + c ≤ 100000000000000000 →
      Ev (fun k => L0 k (xs.set i.toNat (st a m).1) (st a m).2 (i + 1)) r → Ev (fun k => L0 k xs m i) r) :
    ∀ (l pre : List α) (m : Int), (∀ a ∈ l, P a) → 1 ≤ m → m + c * (l.length : Int) ≤ 100000000000000000 → ((pre.length + l.length : Nat) : Int) ≤ 1152921504606846976 →
      Ev (fun k => L0 k (pre ++ l) m (pre.length : Int)) ((mkl st l m).2, pre ++ (mkl st l m).1) := by
  intro l
  induction l with
  | nil => intro pre m _ _ _ _; exact hend _ _ _ (by simp)
  | cons a l ih =>
    intro pre m hP h1 hb hl
    have e : c * ((a :: l).length : Int) = c * (l.length : Int) + c := by rw [List.length_cons, Int.natCast_succ, Int.mul_add, Int.mul_one]
    have hq : 0 ≤ c * (l.length : Int) := Int.mul_nonneg hc (by omega)
    rw [e] at hb
    have hPa := hP a (List.mem_cons_self ..)
    have h2 := hm a m hPa
    have hih := ih (pre ++ [(st a m).1]) (st a m).2 (fun b hb => hP b (List.mem_cons_of_mem _ hb)) (by omega) (by generalize c * (l.length : Int) = q at hb hq ⊢; omega) (by simp only [List.length_append, List.length_cons, List.length_nil] at hl ⊢; omega)
    have hlen : ((pre ++ [(st a m).1]).length : Int) = (pre.length : Int) + 1 := by simp
    rw [hlen] at hih
    refine hstep (pre ++ a :: l) m pre.length a _ (by omega) (by simp only [List.length_append, List.length_cons]; omega) (by simp only [List.length_append, List.length_cons] at hl ⊢; omega) (by simp) hPa h1 (by generalize c * (l.length : Int) = q at hb hq; omega) ?_
    rw [show ((pre.length : Int)).toNat = pre.length by omega, set_pre]
    have er : pre ++ (mkl st (a :: l) m).1 = (pre ++ [(st a m).1]) ++ (mkl st l (st a m).2).1 := by rw [List.append_assoc]; rfl
    rw [er]
    exact hih
theorem held_ev {α : Type} (L0 : Nat → List α → Int → Int → Option Int) (st : α → Int → α × Int) (P : α → Prop) (c : Int) (hc : 0 ≤ c)
    (hm : ∀ a m, P a → m ≤ (st a m).2 ∧ (st a m).2 ≤ m + c)
    (hend : ∀ (xs : List α) (m i : Int), ¬ i < (xs.length : Int) → Ev (fun k => L0 k xs m i) m)
    (hstep : ∀ (xs : List α) (m i : Int) (a : α) (r : Int), 0 ≤ i → i < (xs.length : Int) → (xs.length : Int) ≤ 1152921504606846976 → xs[i.toNat]? = some (st a m).1 → P a → 1 ≤ m → m + c ≤ 100000000000000000 →
      Ev (fun k => L0 k xs (st a m).2 (i + 1)) r → Ev (fun k => L0 k xs m i) r) :
    ∀ (l pre : List α) (m : Int), (∀ a ∈ l, P a) → 1 ≤ m → m + c * (l.length : Int) ≤ 100000000000000000 → ((pre.length + l.length : Nat) : Int) ≤ 1152921504606846976 →
      Ev (fun k => L0 k (pre ++ (mkl st l m).1) m (pre.length : Int)) (mkl st l m).2 := by
  intro l
  induction l with
  | nil => intro pre m _ _ _ _; exact hend _ _ _ (by simp [mkl])
  | cons a l ih =>
    intro pre m hP h1 hb hl
    have e : c * ((a :: l).length : Int) = c * (l.length : Int) + c := by rw [List.length_cons, Int.natCast_succ, Int.mul_add, Int.mul_one]
    have hq : 0 ≤ c * (l.length : Int) := Int.mul_nonneg hc (by omega)
    rw [e] at hb
    have hPa := hP a (List.mem_cons_self ..)
    have h2 := hm a m hPa
    have hih := ih (pre ++ [(st a m).1]) (st a m).2 (fun b hb => hP b (List.mem_cons_of_mem _ hb)) (by omega) (by generalize c * (l.length : Int) = q at hb hq ⊢; omega) (by simp only [List.length_append, List.length_cons, List.length_nil] at hl ⊢; omega)
    have hlen : ((pre ++ [(st a m).1]).length : Int) = (pre.length : Int) + 1 := by simp
    rw [hlen, List.append_assoc] at hih
    have hl2 := mkl_len st (a :: l) m
    exact hstep (pre ++ (mkl st (a :: l) m).1) m pre.length a _ (by omega) (by rw [List.length_append, hl2, List.length_cons]; omega) (by rw [List.length_append, hl2]; omega) (by simp [mkl]) hPa h1 (by generalize c * (l.length : Int) = q at hb hq; omega) hih
theorem getD_some {α : Type} {xs : List α} {i : Int} {a d : α} (h : xs[i.toNat]? = some a) : xs.getD i.toNat d = a := by rw [List.getD_eq_getElem?_getD, h]; rfl
def strSt (_ : ByteArray) (m : Int) : ByteArray × Int := (mt m, m + 1)
theorem wrapS {n : Int} (h0 : 0 ≤ n) (h1 : n ≤ 1152921504606846976) : wrap64 (n + 1) = n + 1 := wrap64_id (by omega) (by omega)
theorem markStringS_ev (l : List ByteArray) (m : Int) (h1 : 1 ≤ m) (hb : m + (l.length : Int) ≤ 100000000000000000) :
    Ev (fun k => laws_markStringS.f k l m) ((mkl strSt l m).2, (mkl strSt l m).1) := by
  refine mark_ev laws_markStringS.l0 strSt (fun _ => True) 1 (by omega) (fun a m _ => ⟨by simp only [strSt]; omega, by simp only [strSt]; omega⟩) ?_ ?_ l [] m (fun _ _ => trivial) h1 (by omega) (by simp only [List.length_nil]; omega)
  · intro xs m i h
    exact Ev.step (f := fun _ => some (m, xs)) (fun k => by simp only [laws_markStringS.l0]; rw [if_neg h]) (Ev.now _)
  · intro xs m i a r h0 hi hl ha _ h1 hb hr
    exact Ev.step (fun k => by rw [laws_markStringS.l0, if_pos hi]) (Ev.bind (mt_ev m (by omega)) (Ev.congr (fun k => by rw [if_pos h0, wrapS (by omega) (by omega), wrapS h0 (by omega)]; rfl) hr))
theorem heldStringS_ev (l : List ByteArray) (m : Int) (h1 : 1 ≤ m) (hb : m + (l.length : Int) ≤ 100000000000000000) :
    Ev (fun k => laws_heldStringS.f k (mkl strSt l m).1 m) (mkl strSt l m).2 := by
  refine held_ev laws_heldStringS.l0 strSt (fun _ => True) 1 (by omega) (fun a m _ => ⟨by simp only [strSt]; omega, by simp only [strSt]; omega⟩) ?_ ?_ l [] m (fun _ _ => trivial) h1 (by omega) (by simp only [List.length_nil]; omega)
  · intro xs m i h
    exact Ev.step (f := fun _ => some m) (fun k => by simp only [laws_heldStringS.l0]; rw [if_neg h]) (Ev.now _)
  · intro xs m i a r h0 hi hl ha _ h1 hb hr
    have e : rdOf ByteArray.empty xs i = mt m := getD_some ha
    exact Ev.step (fun k => by rw [laws_heldStringS.l0, if_pos hi, if_pos h0]) (Ev.bind (mt_ev m (by omega)) (Ev.congr (fun k => by rw [e, if_pos rfl, wrapS (by omega) (by omega), wrapS h0 (by omega)]; rfl) hr))
def waitSt (_ : S54) (m : Int) : S54 × Int := (⟨m, mt (m + 1)⟩, m + 1 + 1)
theorem markWaitS_ev (l : List S54) (m : Int) (h1 : 1 ≤ m) (hb : m + 2 * (l.length : Int) ≤ 100000000000000000) :
    Ev (fun k => laws_markWaitS.f k l m) ((mkl waitSt l m).2, (mkl waitSt l m).1) := by
  refine mark_ev laws_markWaitS.l0 waitSt (fun _ => True) 2 (by omega) (fun a m _ => ⟨by simp only [waitSt]; omega, by simp only [waitSt]; omega⟩) ?_ ?_ l [] m (fun _ _ => trivial) h1 (by omega) (by simp only [List.length_nil]; omega)
  · intro xs m i h
    exact Ev.step (f := fun _ => some (m, xs)) (fun k => by simp only [laws_markWaitS.l0]; rw [if_neg h]) (Ev.now _)
  · intro xs m i a r h0 hi hl ha _ h1 hb hr
    have ew : wrap64 (m + 1) = m + 1 := wrapS (by omega) (by omega)
    have ew2 : wrap64 (m + 1 + 1) = m + 1 + 1 := wrapS (by omega) (by omega)
    have hlt : i.toNat < xs.length := by omega
    have e2 : ∀ t : ByteArray, (xs.set i.toNat (⟨m, (rd_T54 xs i).f1⟩ : S54)).set i.toNat (⟨(rd_T54 (xs.set i.toNat (⟨m, (rd_T54 xs i).f1⟩ : S54)) i).f0, t⟩ : S54) = xs.set i.toNat ⟨m, t⟩ := fun t => by
      rw [List.set_set]
      congr 2
      simp only [rd_T54]
      rw [getD_some (List.getElem?_set_self hlt)]
    exact Ev.step (fun k => by rw [laws_markWaitS.l0, if_pos hi, if_pos h0, Option.bind_some, ew]) (Ev.bind (mt_ev (m + 1) (by omega)) (Ev.congr (fun k => by rw [e2, ew2, wrapS h0 (by omega)]; rfl) hr))
theorem heldWaitS_ev (l : List S54) (m : Int) (h1 : 1 ≤ m) (hb : m + 2 * (l.length : Int) ≤ 100000000000000000) :
    Ev (fun k => laws_heldWaitS.f k (mkl waitSt l m).1 m) (mkl waitSt l m).2 := by
  refine held_ev laws_heldWaitS.l0 waitSt (fun _ => True) 2 (by omega) (fun a m _ => ⟨by simp only [waitSt]; omega, by simp only [waitSt]; omega⟩) ?_ ?_ l [] m (fun _ _ => trivial) h1 (by omega) (by simp only [List.length_nil]; omega)
  · intro xs m i h
    exact Ev.step (f := fun _ => some m) (fun k => by simp only [laws_heldWaitS.l0]; rw [if_neg h]) (Ev.now _)
  · intro xs m i a r h0 hi hl ha _ h1 hb hr
    have e : rd_T54 xs i = (waitSt a m).1 := getD_some ha
    have ew : wrap64 (m + 1) = m + 1 := wrapS (by omega) (by omega)
    have ew2 : wrap64 (m + 1 + 1) = m + 1 + 1 := wrapS (by omega) (by omega)
    exact Ev.step (fun k => by rw [laws_heldWaitS.l0, if_pos hi, if_pos h0, e, if_pos (by rfl), ew]) (Ev.bind (mt_ev (m + 1) (by omega)) (Ev.congr (fun k => by rw [if_pos (by rfl), ew2, wrapS h0 (by omega)]; rfl) hr))
theorem markDisk_ev (l : List ByteArray) (ws : List S54) (a b m : Int) (h1 : 1 ≤ m) (hm : m ≤ 1000000) (h2 : (l.length : Int) ≤ 1099511627776) (h3 : (ws.length : Int) ≤ 1099511627776) :
    Ev (fun k => laws_markDisk.f k l ws a b m) ((mkl waitSt ws (mkl strSt l m).2).2, (mkl strSt l m).1, (mkl waitSt ws (mkl strSt l m).2).1) := by
  have hs := mkl_le strSt (fun _ => True) 1 (fun a m _ => ⟨by simp only [strSt]; omega, by simp only [strSt]; omega⟩) l m (fun _ _ => trivial)
  unfold laws_markDisk.f
  exact Ev.bind (markStringS_ev l m h1 (by omega)) (Ev.bind (markWaitS_ev ws _ (by omega) (by omega)) (Ev.now _))
theorem heldDisk_ev (l : List ByteArray) (ws : List S54) (a b m : Int) (h1 : 1 ≤ m) (hm : m ≤ 1000000) (h2 : (l.length : Int) ≤ 1099511627776) (h3 : (ws.length : Int) ≤ 1099511627776) :
    Ev (fun k => laws_heldDisk.f k (mkl strSt l m).1 (mkl waitSt ws (mkl strSt l m).2).1 a b m) (mkl waitSt ws (mkl strSt l m).2).2 := by
  have hs := mkl_le strSt (fun _ => True) 1 (fun a m _ => ⟨by simp only [strSt]; omega, by simp only [strSt]; omega⟩) l m (fun _ _ => trivial)
  have hw := mkl_le waitSt (fun _ => True) 2 (fun a m _ => ⟨by simp only [waitSt]; omega, by simp only [waitSt]; omega⟩) ws (mkl strSt l m).2 (fun _ _ => trivial)
  unfold laws_heldDisk.f
  exact Ev.bind (heldStringS_ev l m h1 (by omega)) (Ev.congr (fun k => if_neg (by omega)) (Ev.bind (heldWaitS_ev ws _ (by omega) (by omega)) (Ev.congr (fun k => if_neg (by omega)) (Ev.now _))))
theorem markDisk_lt (l : List ByteArray) (ws : List S54) (m : Int) (h1 : 1 ≤ m) : ¬ (mkl waitSt ws (mkl strSt l m).2).2 < 0 := by
  have hs := mkl_le strSt (fun _ => True) 1 (fun a m _ => ⟨by simp only [strSt]; omega, by simp only [strSt]; omega⟩) l m (fun _ _ => trivial)
  have hw := mkl_le waitSt (fun _ => True) 2 (fun a m _ => ⟨by simp only [waitSt]; omega, by simp only [waitSt]; omega⟩) ws (mkl strSt l m).2 (fun _ _ => trivial)
  omega
end Go.Proofs.Ytldjfonpegffiaa.Q

namespace Go.Proofs.Ytldjfonpegffiaa.Q
open Go.RowKit Go.Proofs.Ytldjfonpegffiaa.Q Go.Proofs.YtldjfonpegffiaaW.PrintWords Go.Proofs.YtldjfonpegffiaaW.PrintLast Go.Proofs.YtldjfonpegffiaaW.PrintMore
set_option linter.unusedVariables false
set_option linter.unusedSimpArgs false
/-- A write that waits is ok. -/
def waitOk (w : S54) : Bool := decide (0 ≤ w.f0) && decide (w.f0 ≤ 41) && decide (w.f1.size ≤ 1200)
/-- A disk is ok. -/
def diskOk (cells : List ByteArray) (waits : List S54) (room left : Int) : Bool :=
  decide (cells.length = 42) && decide (waits.length ≤ 100) && decide (-1 ≤ room) && decide (-1 ≤ left) && cells.all (fun s => decide (s.size ≤ 1200)) && waits.all waitOk
theorem impl_in_eq (a b c : Int) : impl_in.f a b c = some (decide (b ≤ a) && decide (a ≤ c)) := by
  unfold impl_in.f
  by_cases h : a ≥ b
  · rw [if_pos h]; have h' : b ≤ a := h; simp [h']
  · rw [if_neg h]; have h' : ¬ b ≤ a := h; simp [h']
theorem spec_l1In_eq (a b c : Int) : spec_l1In.f a b c = some (decide (b ≤ a) && decide (a ≤ c)) := by
  unfold spec_l1In.f
  by_cases h : a ≥ b
  · rw [if_pos h]; have h' : b ≤ a := h; simp [h']
  · rw [if_neg h]; have h' : ¬ b ≤ a := h; simp [h']
theorem has_DiskOk_1_eq (l : List ByteArray) : has_DiskOk_1.f l = some (l.any fun s => decide (1200 < s.size)) := by
  unfold has_DiskOk_1.f
  rw [if_pos (show ∀ x ∈ l, (impl_DiskOk_1.f x).isSome = true from fun x _ => rfl)]
  congr 2
  funext s
  unfold has_DiskOk_1.p impl_DiskOk_1.f
  simp only [Option.getD_some]
  congr 1
  apply propext
  omega
theorem impl_DiskOk_2_eq (w : S54) : impl_DiskOk_2.f w.f0 w.f1 = some (!waitOk w) := by
  unfold impl_DiskOk_2.f impl_isCell.f
  rw [impl_in_eq]
  simp only [Option.bind_some]
  unfold waitOk
  by_cases h : (decide (0 ≤ w.f0) && decide (w.f0 ≤ 41)) = true
  · rw [if_pos h, h]
    congr 1
    rw [Bool.true_and, ← decide_not]
    congr 1
    apply propext
    omega
  · rw [if_neg h]
    simp only [Bool.not_eq_true] at h
    rw [h]
    rfl
theorem has_DiskOk_2_eq (l : List S54) : has_DiskOk_2.f l = some (l.any fun w => !waitOk w) := by
  unfold has_DiskOk_2.f
  rw [if_pos (fun x _ => by rw [impl_DiskOk_2_eq]; rfl)]
  congr 2
  funext s
  unfold has_DiskOk_2.p
  rw [impl_DiskOk_2_eq]
  rfl
theorem any_not_all {α : Type} (l : List α) (p q : α → Bool) (h : ∀ x, p x = !q x) : l.any p = !l.all q := by
  induction l with
  | nil => rfl
  | cons x l ih => rw [List.any_cons, List.all_cons, ih, h]; cases q x <;> simp
theorem impl_DiskOk_eq (cells : List ByteArray) (waits : List S54) (room left : Int) : impl_DiskOk.f cells waits room left = some (diskOk cells waits room left) := by
  unfold impl_DiskOk.f diskOk
  rw [has_DiskOk_1_eq, has_DiskOk_2_eq, any_not_all cells _ (fun s => decide (s.size ≤ 1200)) (fun s => by rw [← decide_not]; congr 1; apply propext; omega), any_not_all waits _ waitOk (fun w => rfl)]
  simp only [Option.bind_some]
  by_cases h1 : cells.length = 42
  · have h1' : (cells.length : Int) = 42 := by omega
    rw [if_pos h1']
    cases h2 : cells.all (fun s => decide (s.size ≤ 1200)) with
    | false => simp
    | true =>
      rw [if_neg (by simp)]
      by_cases h3 : waits.length ≤ 100
      · have h3' : (waits.length : Int) ≤ 100 := by omega
        rw [if_pos h3']
        cases h4 : waits.all waitOk with
        | false => simp
        | true =>
          rw [if_neg (by simp)]
          by_cases h5 : room ≥ -1
          · rw [if_pos h5]
            have h5' : -1 ≤ room := h5
            simp [h1, h3, h5']
          · rw [if_neg h5]
            have h5' : ¬ -1 ≤ room := h5
            simp [h5']
      · have h3' : ¬ (waits.length : Int) ≤ 100 := by omega
        rw [if_neg h3']
        simp [h3]
  · have h1' : ¬ (cells.length : Int) = 42 := by omega
    rw [if_neg h1']
    simp [h1]
theorem spec_l7Wait_eq (a : Int) (s : ByteArray) : spec_l7Wait.f a s = some (waitOk ⟨a, s⟩) := by
  unfold spec_l7Wait.f
  rw [spec_l1In_eq]
  simp only [Option.bind_some]
  unfold waitOk
  by_cases h : (decide (0 ≤ a) && decide (a ≤ 41)) = true
  · rw [if_pos h, h]
    congr 1
    rw [Bool.true_and]
    congr 1
    apply propext
    show (s.size : Int) ≤ 1200 ↔ s.size ≤ 1200
    omega
  · rw [if_neg h]
    simp only [Bool.not_eq_true] at h
    rw [h]
    rfl
theorem l7Ok_l1 (cells : List ByteArray) (waits : List S54) (room left : Int) (hw : (waits.length : Int) ≤ 4611686018427387904) : ∀ (d : Nat) (i : Int), 0 ≤ i → (waits.length : Int) - i = d → i ≤ waits.length →
    Ev (fun k => spec_l7Ok.l1 k i cells waits room left) ((waits.drop i.toNat).all waitOk) := by
  intro d
  induction d with
  | zero =>
    intro i h0 hd hi
    have e : i.toNat = waits.length := by omega
    rw [e, List.drop_length]
    exact Ev.step (f := fun _ => some true) (fun k => by rw [spec_l7Ok.l1, if_neg (by omega)]) (Ev.now _)
  | succ d ih =>
    intro i h0 hd hi
    have hlt : i < (waits.length : Int) := by omega
    have ei : wrap64 (i + 1) = i + 1 := wrap64_id (by omega) (by omega)
    have hdrop : waits.drop i.toNat = rd_T54 waits i :: waits.drop (i + 1).toNat := by
      have e : (i + 1).toNat = i.toNat + 1 := by omega
      rw [e, List.drop_eq_getElem_cons (by omega)]
      congr 1
      simp only [rd_T54]
      rw [List.getD_eq_getElem?_getD, List.getElem?_eq_getElem (by omega)]
      rfl
    rw [hdrop, List.all_cons]
    have hst : ∀ k, spec_l7Ok.l1 (k + 1) i cells waits room left = (if waitOk (rd_T54 waits i) = true then spec_l7Ok.l1 k (i + 1) cells waits room left else some false) := fun k => by
      rw [spec_l7Ok.l1, if_pos hlt, if_pos h0, spec_l7Wait_eq, ei]
      rfl
    cases h : waitOk (rd_T54 waits i) with
    | true => rw [h] at hst; exact Ev.step hst (Ev.congr (fun k => if_pos rfl) (by simpa using ih (i + 1) (by omega) (by omega) (by omega)))
    | false => rw [h] at hst; exact Ev.step hst (Ev.congr (fun k => if_neg (by simp)) (by simpa using Ev.now false))
theorem l7Ok_l0 (cells : List ByteArray) (waits : List S54) (room left : Int) (hc : (cells.length : Int) ≤ 4611686018427387904) (hw : (waits.length : Int) ≤ 4611686018427387904) : ∀ (d : Nat) (i : Int), 0 ≤ i → (cells.length : Int) - i = d → i ≤ cells.length →
    Ev (fun k => spec_l7Ok.l0 k i cells waits room left) ((cells.drop i.toNat).all (fun s => decide (s.size ≤ 1200)) && waits.all waitOk) := by
  intro d
  induction d with
  | zero =>
    intro i h0 hd hi
    have e : i.toNat = cells.length := by omega
    rw [e, List.drop_length]
    exact Ev.step (f := fun k => spec_l7Ok.l1 k 0 cells waits room left) (fun k => by rw [spec_l7Ok.l0, if_neg (by omega)]) (by simpa using l7Ok_l1 cells waits room left hw waits.length 0 (by omega) (by omega) (by omega))
  | succ d ih =>
    intro i h0 hd hi
    have hlt : i < (cells.length : Int) := by omega
    have ei : wrap64 (i + 1) = i + 1 := wrap64_id (by omega) (by omega)
    have hdrop : cells.drop i.toNat = rdOf ByteArray.empty cells i :: cells.drop (i + 1).toNat := by
      have e : (i + 1).toNat = i.toNat + 1 := by omega
      rw [e, List.drop_eq_getElem_cons (by omega)]
      congr 1
      simp only [rdOf]
      rw [List.getD_eq_getElem?_getD, List.getElem?_eq_getElem (by omega)]
      rfl
    rw [hdrop, List.all_cons]
    have hst : ∀ k, spec_l7Ok.l0 (k + 1) i cells waits room left = (if ((rdOf ByteArray.empty cells i).size : Int) > 1200 then some false else spec_l7Ok.l0 k (i + 1) cells waits room left) := fun k => by
      rw [spec_l7Ok.l0, if_pos hlt, if_pos h0, ei]
    by_cases h : ((rdOf ByteArray.empty cells i).size : Int) > 1200
    · have h' : ¬ (rdOf ByteArray.empty cells i).size ≤ 1200 := by omega
      exact Ev.step hst (Ev.congr (fun k => if_pos h) (by simpa [h'] using Ev.now false))
    · have h' : (rdOf ByteArray.empty cells i).size ≤ 1200 := by omega
      exact Ev.step hst (Ev.congr (fun k => if_neg h) (by simpa [h'] using ih (i + 1) (by omega) (by omega) (by omega)))
theorem spec_l7Ok_ev (cells : List ByteArray) (waits : List S54) (room left : Int) (hc : (cells.length : Int) ≤ 4611686018427387904) (hw : (waits.length : Int) ≤ 4611686018427387904) :
    Ev (fun k => spec_l7Ok.f k cells waits room left) (diskOk cells waits room left) := by
  have hj : ∀ b : Bool, Ev (fun k => spec_l7Ok.j0 k b cells waits room left) (!b && (cells.all (fun s => decide (s.size ≤ 1200)) && waits.all waitOk)) := fun b => by
    cases b with
    | true => exact Ev.step (f := fun _ => some false) (fun k => by rw [spec_l7Ok.j0, if_pos rfl]) (Ev.now _)
    | false => exact Ev.step (f := fun k => spec_l7Ok.l0 k 0 cells waits room left) (fun k => by rw [spec_l7Ok.j0, if_neg (by simp)]) (by simpa using l7Ok_l0 cells waits room left hc hw cells.length 0 (by omega) (by omega) (by omega))
  unfold spec_l7Ok.f diskOk
  by_cases h1 : (cells.length : Int) = 42
  · have h1' : cells.length = 42 := by omega
    refine Ev.congr (fun k => if_pos h1) ?_
    by_cases h2 : (waits.length : Int) > 100
    · have h2' : ¬ waits.length ≤ 100 := by omega
      exact Ev.congr (fun k => if_pos h2) (by simpa [h2'] using hj true)
    · have h2' : waits.length ≤ 100 := by omega
      refine Ev.congr (fun k => if_neg h2) ?_
      by_cases h3 : room < -1
      · have h3' : ¬ -1 ≤ room := by omega
        exact Ev.congr (fun k => if_pos h3) (by simpa [h3'] using hj true)
      · have h3' : -1 ≤ room := by omega
        refine Ev.congr (fun k => if_neg h3) ?_
        have h4 : (!decide (left < -1)) = decide (-1 ≤ left) := by rw [← decide_not]; congr 1; apply propext; omega
        have := hj (decide (left < -1))
        rw [h4] at this
        simpa [h1', h2', h3', Bool.and_assoc] using this
  · have h1' : ¬ cells.length = 42 := by omega
    exact Ev.congr (fun k => if_neg h1) (by simpa [h1'] using hj true)
end Go.Proofs.Ytldjfonpegffiaa.Q
