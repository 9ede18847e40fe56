import Derived.RangeFuncNested
import Derived.RangeFuncBound
import Derived.RangeFuncCalls
import Derived.RangeFuncLeaves
import Derived.Shelf.Abstract
import Derived.Shelf.RegionOpen
import Derived.WalkKit
import Derived.OwnWalkIn
import Derived.TacticsInMore
import Derived.LoopNIn
import Derived.LoopIn
import Derived.Test.YtdmcibaoebmieaaDoorQx0
namespace Go.Proofs.YtdmcibaoebmieaaDoor.Q
open Go.Shelf
open Go.RowKit Go.Proofs.YtdmcibaoebmieaaDoor.Q Go.Proofs.YtdmcibaoebmieaaDoorW.PrintWords Go.Proofs.YtdmcibaoebmieaaDoorW.PrintLast Go.Proofs.YtdmcibaoebmieaaDoorW.PrintMore
set_option linter.unusedVariables false
set_option linter.unusedSimpArgs false
/-- A block holds these cells. -/
def CellsAt (W : World) (B : Nat) (t : TypeId) (cs : Array Value) : Prop := W.heap[B]? = some (.cells cs t (0, 0))
theorem CellsAt.lt {W : World} {B : Nat} {t : TypeId} {cs : Array Value} (h : CellsAt W B t cs) : B < W.heap.size := (Array.getElem?_eq_some_iff.1 h).1
theorem CellsAt.new (W : World) (t : TypeId) (cs : Array Value) : CellsAt (W.alloc (.cells cs t)) W.heap.size t cs := World.alloc_heap_new W _
theorem CellsAt.kept {W W' : World} {row : Option Nat} {B : Nat} {t : TypeId} {cs : Array Value} (h : CellsAt W B t cs) (hg : W.grownBy W' row) (hne : some B ≠ row) : CellsAt W' B t cs := (hg.block B h.lt hne).trans h
theorem CellsAt.below {W W' : World} {B n : Nat} {t : TypeId} {cs : Array Value} (h : CellsAt W B t cs) (hb : Below n W W') (hn : B < n) : CellsAt W' B t cs := (hb.block B hn).trans h
theorem CellsAt.alloc {W : World} {B : Nat} {t : TypeId} {cs : Array Value} (h : CellsAt W B t cs) (o : Obj) : CellsAt (W.alloc o) B t cs := (Below.heap_alloc W o B h.lt).trans h
theorem CellsAt.drewN {W : World} {B : Nat} {t : TypeId} {cs : Array Value} (h : CellsAt W B t cs) (m : Nat) : CellsAt (W.drewN m) B t cs := h
theorem CellsAt.cell {W : World} {B : Nat} {t : TypeId} {cs : Array Value} (h : CellsAt W B t cs) (j : Nat) : W.cell? ⟨B, j, none⟩ = cs[j]? := by
  simp [World.cell?, show W.heap[B]? = _ from h]
theorem CellsAt.frozen {W : World} {B : Nat} {t : TypeId} {cs : Array Value} (h : CellsAt W B t cs) (j : Nat) : W.frozen? ⟨B, j, none⟩ = false := by simp [World.frozen?, show W.heap[B]? = _ from h]
theorem cellsAt_own {β : Type} (B : Nat) (t : TypeId) (f : β → Array Value) : Own (fun s W => CellsAt W B t (f s)) := fun s X Y row hs hg hrow =>
  hs.kept hg (fun e' => by obtain ⟨o, ho, hc⟩ := hrow B e'.symm; rw [show X.heap[B]? = _ from hs] at ho; cases ho; cases hc)
/-- What has come when k rounds are over. -/
def upto {α : Type} (f : Nat → α) (k : Nat) : List α := (List.range k).map f
theorem upto_succ {α : Type} (f : Nat → α) (k : Nat) : upto f (k + 1) = upto f k ++ [f k] := by simp [upto, List.range_succ]
theorem upto_length {α : Type} (f : Nat → α) (k : Nat) : (upto f k).length = k := by simp [upto]
/-- What a round that goes on keeps: what lay below, and the box of the slice. -/
def KpB (n₀ Bs : Nat) (W W' : World) : Prop := Below n₀ W W' ∧ W'.heap[Bs]? = W.heap[Bs]?
theorem KpB.refl (n₀ Bs : Nat) (W : World) : KpB n₀ Bs W W := ⟨Below.refl _ _, rfl⟩
theorem KpB.trans {n₀ Bs : Nat} {A B C : World} (h : KpB n₀ Bs A B) (k : KpB n₀ Bs B C) : KpB n₀ Bs A C := ⟨h.1.trans k.1, k.2.trans h.2⟩
theorem kpB_b {n₀ Bs : Nat} {w : World} (h0 : n₀ ≤ w.heap.size) (hB : Bs < w.heap.size) : ∀ (W : World) (l : Nat) (o o' : Obj), w.heap.size ≤ l → W.heap[l]? = some o → o.isCells = false → o.isWalk = false → KpB n₀ Bs W (W.putObj l o') :=
  fun W l o o' hl h1 h2 h3 => ⟨belowK_b h0 W l o o' hl h1 h2 h3, World.putObj_heap_other (by omega)⟩
theorem Below.drewN_ {n : Nat} (w : World) (m : Nat) : Below n w (w.drewN m) := ⟨rfl, rfl, rfl, Nat.le_refl _, fun _ _ => rfl⟩
end Go.Proofs.YtdmcibaoebmieaaDoor.Q
