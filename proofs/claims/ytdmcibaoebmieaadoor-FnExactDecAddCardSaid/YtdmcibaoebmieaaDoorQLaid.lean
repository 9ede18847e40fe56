import Derived.Lib.LaidTab
import Derived.Shelf.Strconv.Itoa3
import Derived.Test.YtdmcibaoebmieaaDoorQx0
namespace Go.Proofs.YtdmcibaoebmieaaDoor.Q
open Go.RowKit Go.Proofs.YtdmcibaoebmieaaDoor.Q Go.Proofs.YtdmcibaoebmieaaDoorW.PrintWords Go.Proofs.YtdmcibaoebmieaaDoorW.PrintLast Go.Proofs.YtdmcibaoebmieaaDoorW.PrintMore
set_option linter.unusedVariables false
set_option linter.unusedSimpArgs false
/-- The table that strconv reads is laid. -/
def Laid (w : World) : Prop := Lib.TabIs Tryd.prog w "internal/strconv.uint64pow10" .u64 Lib.pow10Tab
theorem gPow : ∃ g, Tryd.prog.globalNamed "internal/strconv.uint64pow10" = some g := Option.isSome_iff_exists.1 (by kernel_rfl)
theorem laid_below {w W : World} (h : Laid w) (hb : Below w.heap.size w W) : Laid W := by
  obtain ⟨g, hg⟩ := gPow
  unfold Laid Lib.TabIs World.var? at h ⊢
  simp only [hg, Option.bind_some] at h ⊢
  have hlt : g < w.heap.size := by
    rcases Nat.lt_or_ge g w.heap.size with h' | h'
    · exact h'
    · simp [Array.getElem?_eq_none h'] at h
  rw [hb.block g hlt]
  exact h
theorem laid_alloc {w : World} (h : Laid w) (o : Obj) : Laid (w.alloc o) := laid_below h ((Below.refl _ w).alloc (Nat.le_refl _) o)
theorem laid_drewN {w : World} (h : Laid w) (m : Nat) : Laid (w.drewN m) := h
theorem laid_drew {w : World} (h : Laid w) : Laid w.drew := h
end Go.Proofs.YtdmcibaoebmieaaDoor.Q
