/- A part of the proof that the law FnExactDiskRead answers true for every input: contracts of functions that it reaches, or its plain law. -/
import Derived.Test.YtldjfonpegffiaaProg
import Derived.Below
import Derived.Deep.Draws
import Derived.Deep.AppendLies
import Derived.Maps.AppendAt
import Derived.OwnWalk
import Derived.Laws.BytesArg
import Derived.Laws.MakeOwn
import Derived.Laws.OwnMore
import Derived.Deep.OwnRows
import Derived.Tactics
import Derived.Lib.ConvBytes
import Derived.Laws.Slices
import Derived.WalkKit
import Derived.KernelRfl
import Derived.RowKit3
import Derived.Deep.LoopGhost
import Derived.Deep.QuietTactic
import Derived.BigQuiet
import Derived.WideLaws
import Derived.Deep.DeepCutAuto
import Derived.Deep.CutBlock
import Derived.Deep.RegionHeld3
import Derived.Laws.Rows
import Derived.Lib.AppendStr
import Derived.ArgAppend
import Derived.Laws.IdiomCopy
import Derived.OrdersHeld
import Derived.Laws.BitsLemmas
import Derived.RowKit
import Derived.RangeFuncNested
import Derived.RangeFuncBound
import Derived.RangeFuncCalls
import Derived.RangeFuncLeaves
import Derived.Shelf.Abstract
import Derived.Shelf.RegionOpen
import Derived.OwnWalkIn
import Derived.TacticsInMore
import Derived.LoopNIn
import Derived.LoopIn
import Derived.Deep.Slices
import Derived.ChangeArms
import Derived.WideShapes
import Derived.Test.YtldjfonpegffiaaCFnExactDiskReadx0
import Derived.Test.YtldjfonpegffiaaCFnExactDiskReadx1
import Derived.Test.YtldjfonpegffiaaCFnExactDiskReadx2
import Derived.Test.YtldjfonpegffiaaCFnExactDiskReadx3
import Derived.Test.YtldjfonpegffiaaCFnExactDiskReadx4
import Derived.Test.YtldjfonpegffiaaCFnExactDiskReadx5
import Derived.Test.YtldjfonpegffiaaCFnExactDiskReadx7
namespace Go.Proofs.Ytldjfonpegffiaa.Q
open Go.RowKit Go.Proofs.YtldjfonpegffiaaW.PrintWords Go.Proofs.YtldjfonpegffiaaW.PrintLast Go.Proofs.YtldjfonpegffiaaW.PrintMore
attribute [local go_sem] max2_int min2_int max_two min_two max_three min_three max_four min_four   -- for this text's walks alone
set_option linter.unusedVariables false
set_option linter.unusedSimpArgs false

/-! ### impl_DiskOk: function 31 -/
def impl_DiskOk.f (l0_0 : List ByteArray) (l0_1 : List (S54)) (a0_2 : Int) (a0_3 : Int) : Option (Bool) := if (l0_0.length : Int) = 42 then ((has_DiskOk_1.f l0_0).bind fun t305 => (if t305 = true then (some false) else (if (l0_1.length : Int) ≤ 100 then ((has_DiskOk_2.f l0_1).bind fun t306 => (if t306 = true then (some false) else (if a0_2 ≥ (-1) then (some (decide (a0_3 ≥ (-1)))) else (some false)))) else (some false)))) else (some false)
set_option maxHeartbeats 8000000 in
set_option maxRecDepth 100000 in
theorem impl_DiskOk.calls (A0_0 : Option Addr) (c0_0 : Nat) (l0_0 : List ByteArray) (A0_1 : Option Addr) (c0_1 : Nat) (l0_1 : List (S54)) (a0_2 : Int) (a0_3 : Int) (r : Bool) (w : World) (hr0_0 : Kd.C Kd.string w A0_0 l0_0.length l0_0) (hc0_0 : l0_0.length ≤ c0_0) (hr0_1 : Kd.C k54 w A0_1 l0_1.length l0_1) (hc0_1 : l0_1.length ≤ c0_1) (h : impl_DiskOk.f l0_0 l0_1 a0_2 a0_3 = some r) :
    Calls Try.prog 31 #[.agg #[.slice A0_0 l0_0.length c0_0, .slice A0_1 l0_1.length c0_1, .int .i64 a0_2, .int .i64 a0_3]] w fun e w' => e = .returned (.bool r) ∧ Below w.heap.size w w' := by
  have hu30 := Try.underlying30
  have HR0_0 := Aside0.mk hr0_0
  have HC0_0 := Aside0.mk hc0_0
  clear hr0_0 hc0_0
  have HR0_1 := Aside0.mk hr0_1
  have HC0_1 := Aside0.mk hc0_1
  clear hr0_1 hc0_1
  have HB := Aside0.mk (Below.refl w.heap.size w)
  have H : (if (l0_0.length : Int) = 42 then ((has_DiskOk_1.f l0_0).bind fun t305 => (if t305 = true then (some false) else (if (l0_1.length : Int) ≤ 100 then ((has_DiskOk_2.f l0_1).bind fun t306 => (if t306 = true then (some false) else (if a0_2 ≥ (-1) then (some (decide (a0_3 ≥ (-1)))) else (some false)))) else (some false)))) else (some false)) = some r := h
  clear h
  by_cases c2 : (l0_0.length : Int) = 42
  · rw [if_pos c2] at H
    have c2b0 : ((l0_0.length : Int) == 42) = true := beq_iff_eq.mpr c2
    have c2b1 : ((l0_0.length : Int) != 42) = false := bne_eq_false_iff_eq.mpr c2
    clear c2
    replace H := Option.bind_eq_some_iff.mp H
    obtain ⟨t305, A30, H⟩ := H
    replace H : (if t305 = true then (some false) else (if (l0_1.length : Int) ≤ 100 then ((has_DiskOk_2.f l0_1).bind fun t306 => (if t306 = true then (some false) else (if a0_2 ≥ (-1) then (some (decide (a0_3 ≥ (-1)))) else (some false)))) else (some false))) = some r := H
    have A3 := Aside0.mk A30
    clear A30
    by_cases c4 : t305 = true
    · subst c4
      have H1 : (some false) = some r := by rw [if_pos rfl] at H; exact H
      clear H
      have H := H1
      clear H1
      obtain rfl := Option.some.inj H
      go_enter Try.func31, Try.ntmps31
      go_wp2_with (first | ((with_reducible refine gate_dst (N := 1) rfl ?_); (try (refine gate_guard (by rfl) ?_; dsimp only)); refine box_event ?hg (N := 1) ?hd (cs := #[.slice A0_0 l0_0.length c0_0, .slice A0_1 l0_1.length c0_1, .int .i64 a0_2, .int .i64 a0_3]) (t := 30) ?hr ?_; (case hd => rfl); (case hg => rfl); (case hr => first | (go_simp; done) | (go_simp; rfl)); intro gb304 hg w5 hbox hb; have n0_ := Aside0.mk (below_step (by repeat (first | (with_reducible first | exact HB.out | apply below_alloc | apply pw_below_drewN | apply below_drew1) | exact HB.out)) hb); have n1_ := Aside0.mk (hbox); have n2_ := Aside0.mk ((by rw [hg]; exact (below_size (by repeat (first | (with_reducible first | exact HB.out | apply below_alloc | apply pw_below_drewN | apply below_drew1) | exact HB.out))) : w.heap.size ≤ gb304)); have n3_ := Aside0.mk ((by rw [hg]; exact (below_size (by repeat (first | (with_reducible first | exact HB.out | apply below_alloc | apply pw_below_drewN | apply below_drew1) | exact HB.out))) : w.heap.size ≤ gb304)); clear HB; have HB := n0_; have BK304 := n1_; have GW304 := n2_; have GE304 := n3_; clear n0_ n1_ n2_ n3_; clear hb hbox hg; have hcz6_0 : w5.cell? ⟨gb304, 0, none⟩ = some (.slice A0_0 l0_0.length c0_0) := (blk_cell BK304.out 0).trans rfl; have hcz6_1 : w5.cell? ⟨gb304, 1, none⟩ = some (.slice A0_1 l0_1.length c0_1) := (blk_cell BK304.out 1).trans rfl; have hcz6_2 : w5.cell? ⟨gb304, 2, none⟩ = some (.int .i64 a0_2) := (blk_cell BK304.out 2).trans rfl; have hcz6_3 : w5.cell? ⟨gb304, 3, none⟩ = some (.int .i64 a0_3) := (blk_cell BK304.out 3).trans rfl; have hfz6_0 := blk_frozen BK304.out 0; have hfz6_1 := blk_frozen BK304.out 1; have hfz6_2 := blk_frozen BK304.out 2; have hfz6_3 := blk_frozen BK304.out 3) | (go_at_call 68; (with_reducible refine (has_DiskOk_1.calls _ _ l0_0 true _ ?side1 ?side2 A3.out).mono ?_); (case side1 => repeat (first | exact (Kd.C_below HR0_0.out HB.out) | (with_reducible refine Kd.C_alloc ?_ _) | (with_reducible refine Kd.C_drewN ?_ _) | (with_reducible refine Kd.C_drew ?_))); (case side2 => exact HC0_0.out); rintro e w' ⟨rfl, ⟨nd, rfl⟩⟩))
      go_ret
      exact ⟨by first | rfl | (simp [errW_none, errW_some] <;> rfl) | (simp [*, errW_none, errW_some] <;> rfl), by repeat (first | (with_reducible first | exact HB.out | apply below_alloc | apply pw_below_drewN | apply below_drew1 | refine below_set ?_ GE304.out) | exact HB.out)⟩
    · replace c4 := Bool.eq_false_iff.mpr c4
      subst c4
      have H1 : (if (l0_1.length : Int) ≤ 100 then ((has_DiskOk_2.f l0_1).bind fun t306 => (if t306 = true then (some false) else (if a0_2 ≥ (-1) then (some (decide (a0_3 ≥ (-1)))) else (some false)))) else (some false)) = some r := by rw [if_neg (show ¬ (false = true) by decide)] at H; exact H
      clear H
      have H := H1
      clear H1
      by_cases c7 : (l0_1.length : Int) ≤ 100
      · rw [if_pos c7] at H
        have c7b0 : decide ((l0_1.length : Int) ≤ 100) = true := decide_eq_true c7
        have c7b1 : decide (l0_1.length ≤ 100) = true := decide_eq_true (by omega)
        clear c7
        replace H := Option.bind_eq_some_iff.mp H
        obtain ⟨t306, A80, H⟩ := H
        replace H : (if t306 = true then (some false) else (if a0_2 ≥ (-1) then (some (decide (a0_3 ≥ (-1)))) else (some false))) = some r := H
        have A8 := Aside0.mk A80
        clear A80
        by_cases c9 : t306 = true
        · subst c9
          have H1 : (some false) = some r := by rw [if_pos rfl] at H; exact H
          clear H
          have H := H1
          clear H1
          obtain rfl := Option.some.inj H
          go_enter Try.func31, Try.ntmps31
          go_wp2_with (first | ((with_reducible refine gate_dst (N := 1) rfl ?_); (try (refine gate_guard (by rfl) ?_; dsimp only)); refine box_event ?hg (N := 1) ?hd (cs := #[.slice A0_0 l0_0.length c0_0, .slice A0_1 l0_1.length c0_1, .int .i64 a0_2, .int .i64 a0_3]) (t := 30) ?hr ?_; (case hd => rfl); (case hg => rfl); (case hr => first | (go_simp; done) | (go_simp; rfl)); intro gb304 hg w10 hbox hb; have n0_ := Aside0.mk (below_step (by repeat (first | (with_reducible first | exact HB.out | apply below_alloc | apply pw_below_drewN | apply below_drew1) | exact HB.out)) hb); have n1_ := Aside0.mk (hbox); have n2_ := Aside0.mk ((by rw [hg]; exact (below_size (by repeat (first | (with_reducible first | exact HB.out | apply below_alloc | apply pw_below_drewN | apply below_drew1) | exact HB.out))) : w.heap.size ≤ gb304)); have n3_ := Aside0.mk ((by rw [hg]; exact (below_size (by repeat (first | (with_reducible first | exact HB.out | apply below_alloc | apply pw_below_drewN | apply below_drew1) | exact HB.out))) : w.heap.size ≤ gb304)); clear HB; have HB := n0_; have BK304 := n1_; have GW304 := n2_; have GE304 := n3_; clear n0_ n1_ n2_ n3_; clear hb hbox hg; have hcz11_0 : w10.cell? ⟨gb304, 0, none⟩ = some (.slice A0_0 l0_0.length c0_0) := (blk_cell BK304.out 0).trans rfl; have hcz11_1 : w10.cell? ⟨gb304, 1, none⟩ = some (.slice A0_1 l0_1.length c0_1) := (blk_cell BK304.out 1).trans rfl; have hcz11_2 : w10.cell? ⟨gb304, 2, none⟩ = some (.int .i64 a0_2) := (blk_cell BK304.out 2).trans rfl; have hcz11_3 : w10.cell? ⟨gb304, 3, none⟩ = some (.int .i64 a0_3) := (blk_cell BK304.out 3).trans rfl; have hfz11_0 := blk_frozen BK304.out 0; have hfz11_1 := blk_frozen BK304.out 1; have hfz11_2 := blk_frozen BK304.out 2; have hfz11_3 := blk_frozen BK304.out 3) | (go_at_call 68; (with_reducible refine (has_DiskOk_1.calls _ _ l0_0 false _ ?side1 ?side2 A3.out).mono ?_); (case side1 => repeat (first | exact (Kd.C_below HR0_0.out HB.out) | (with_reducible refine Kd.C_alloc ?_ _) | (with_reducible refine Kd.C_drewN ?_ _) | (with_reducible refine Kd.C_drew ?_))); (case side2 => exact HC0_0.out); rintro e w' ⟨rfl, ⟨nd, rfl⟩⟩) | (go_at_call 70; (with_reducible refine (has_DiskOk_2.calls _ _ l0_1 true _ ?side1 ?side2 A8.out).mono ?_); (case side1 => repeat (first | exact (Kd.C_below HR0_1.out (by repeat (first | (with_reducible first | exact HB.out | apply below_alloc | apply pw_below_drewN | apply below_drew1 | refine below_set ?_ GE304.out) | exact HB.out))) | (with_reducible refine Kd.C_alloc ?_ _) | (with_reducible refine Kd.C_drewN ?_ _) | (with_reducible refine Kd.C_drew ?_))); (case side2 => exact HC0_1.out); rintro e w12 ⟨rfl, hb⟩; have n0_ := Aside0.mk (blk_below (g := gb304) (o := .cells #[.slice A0_0 l0_0.length c0_0, .slice A0_1 l0_1.length c0_1, .int .i64 a0_2, .int .i64 a0_3] 30 (0, 0)) (by (with_reducible repeat (first | refine blk_drewN ?_ _ | refine blk_drew ?_ | refine blk_alloc ?_ _)); exact BK304.out) hb); have n1_ := Aside0.mk (below_step (by repeat (first | (with_reducible first | exact HB.out | apply below_alloc | apply pw_below_drewN | apply below_drew1 | refine below_set ?_ GE304.out) | exact HB.out)) hb); clear BK304; clear HB; have BK304 := n0_; have HB := n1_; clear n0_ n1_; (try clear hb); (try clear hb2); (try clear hk); (try clear hi)))
          go_ret
          exact ⟨by first | rfl | (simp [errW_none, errW_some] <;> rfl) | (simp [*, errW_none, errW_some] <;> rfl), by repeat (first | (with_reducible first | exact HB.out | apply below_alloc | apply pw_below_drewN | apply below_drew1 | refine below_set ?_ GE304.out) | exact HB.out)⟩
        · replace c9 := Bool.eq_false_iff.mpr c9
          subst c9
          have H1 : (if a0_2 ≥ (-1) then (some (decide (a0_3 ≥ (-1)))) else (some false)) = some r := by rw [if_neg (show ¬ (false = true) by decide)] at H; exact H
          clear H
          have H := H1
          clear H1
          by_cases c13 : a0_2 ≥ (-1)
          · rw [if_pos c13] at H
            have c13b0 : decide ((-1) ≤ a0_2) = true := decide_eq_true c13
            clear c13
            obtain rfl := Option.some.inj H
            go_enter Try.func31, Try.ntmps31
            go_wp2_with (first | ((with_reducible refine gate_dst (N := 1) rfl ?_); (try (refine gate_guard (by rfl) ?_; dsimp only)); refine box_event ?hg (N := 1) ?hd (cs := #[.slice A0_0 l0_0.length c0_0, .slice A0_1 l0_1.length c0_1, .int .i64 a0_2, .int .i64 a0_3]) (t := 30) ?hr ?_; (case hd => rfl); (case hg => rfl); (case hr => first | (go_simp; done) | (go_simp; rfl)); intro gb304 hg w14 hbox hb; have n0_ := Aside0.mk (below_step (by repeat (first | (with_reducible first | exact HB.out | apply below_alloc | apply pw_below_drewN | apply below_drew1) | exact HB.out)) hb); have n1_ := Aside0.mk (hbox); have n2_ := Aside0.mk ((by rw [hg]; exact (below_size (by repeat (first | (with_reducible first | exact HB.out | apply below_alloc | apply pw_below_drewN | apply below_drew1) | exact HB.out))) : w.heap.size ≤ gb304)); have n3_ := Aside0.mk ((by rw [hg]; exact (below_size (by repeat (first | (with_reducible first | exact HB.out | apply below_alloc | apply pw_below_drewN | apply below_drew1) | exact HB.out))) : w.heap.size ≤ gb304)); clear HB; have HB := n0_; have BK304 := n1_; have GW304 := n2_; have GE304 := n3_; clear n0_ n1_ n2_ n3_; clear hb hbox hg; have hcz15_0 : w14.cell? ⟨gb304, 0, none⟩ = some (.slice A0_0 l0_0.length c0_0) := (blk_cell BK304.out 0).trans rfl; have hcz15_1 : w14.cell? ⟨gb304, 1, none⟩ = some (.slice A0_1 l0_1.length c0_1) := (blk_cell BK304.out 1).trans rfl; have hcz15_2 : w14.cell? ⟨gb304, 2, none⟩ = some (.int .i64 a0_2) := (blk_cell BK304.out 2).trans rfl; have hcz15_3 : w14.cell? ⟨gb304, 3, none⟩ = some (.int .i64 a0_3) := (blk_cell BK304.out 3).trans rfl; have hfz15_0 := blk_frozen BK304.out 0; have hfz15_1 := blk_frozen BK304.out 1; have hfz15_2 := blk_frozen BK304.out 2; have hfz15_3 := blk_frozen BK304.out 3) | (go_at_call 68; (with_reducible refine (has_DiskOk_1.calls _ _ l0_0 false _ ?side1 ?side2 A3.out).mono ?_); (case side1 => repeat (first | exact (Kd.C_below HR0_0.out HB.out) | (with_reducible refine Kd.C_alloc ?_ _) | (with_reducible refine Kd.C_drewN ?_ _) | (with_reducible refine Kd.C_drew ?_))); (case side2 => exact HC0_0.out); rintro e w' ⟨rfl, ⟨nd, rfl⟩⟩) | (go_at_call 70; (with_reducible refine (has_DiskOk_2.calls _ _ l0_1 false _ ?side1 ?side2 A8.out).mono ?_); (case side1 => repeat (first | exact (Kd.C_below HR0_1.out (by repeat (first | (with_reducible first | exact HB.out | apply below_alloc | apply pw_below_drewN | apply below_drew1 | refine below_set ?_ GE304.out) | exact HB.out))) | (with_reducible refine Kd.C_alloc ?_ _) | (with_reducible refine Kd.C_drewN ?_ _) | (with_reducible refine Kd.C_drew ?_))); (case side2 => exact HC0_1.out); rintro e w16 ⟨rfl, hb⟩; have n0_ := Aside0.mk (blk_below (g := gb304) (o := .cells #[.slice A0_0 l0_0.length c0_0, .slice A0_1 l0_1.length c0_1, .int .i64 a0_2, .int .i64 a0_3] 30 (0, 0)) (by (with_reducible repeat (first | refine blk_drewN ?_ _ | refine blk_drew ?_ | refine blk_alloc ?_ _)); exact BK304.out) hb); have n1_ := Aside0.mk (below_step (by repeat (first | (with_reducible first | exact HB.out | apply below_alloc | apply pw_below_drewN | apply below_drew1 | refine below_set ?_ GE304.out) | exact HB.out)) hb); clear BK304; clear HB; have BK304 := n0_; have HB := n1_; clear n0_ n1_; (try clear hb); (try clear hb2); (try clear hk); (try clear hi); have hcz17_0 : w16.cell? ⟨gb304, 0, none⟩ = some (.slice A0_0 l0_0.length c0_0) := (blk_cell BK304.out 0).trans rfl; have hcz17_1 : w16.cell? ⟨gb304, 1, none⟩ = some (.slice A0_1 l0_1.length c0_1) := (blk_cell BK304.out 1).trans rfl; have hcz17_2 : w16.cell? ⟨gb304, 2, none⟩ = some (.int .i64 a0_2) := (blk_cell BK304.out 2).trans rfl; have hcz17_3 : w16.cell? ⟨gb304, 3, none⟩ = some (.int .i64 a0_3) := (blk_cell BK304.out 3).trans rfl; have hfz17_0 := blk_frozen BK304.out 0; have hfz17_1 := blk_frozen BK304.out 1; have hfz17_2 := blk_frozen BK304.out 2; have hfz17_3 := blk_frozen BK304.out 3))
            go_ret
            exact ⟨by first | rfl | (simp [errW_none, errW_some] <;> rfl) | (simp [*, errW_none, errW_some] <;> rfl), by repeat (first | (with_reducible first | exact HB.out | apply below_alloc | apply pw_below_drewN | apply below_drew1 | refine below_set ?_ GE304.out) | exact HB.out)⟩
          · rw [if_neg c13] at H
            have c13b0 : decide ((-1) ≤ a0_2) = false := decide_eq_false c13
            clear c13
            obtain rfl := Option.some.inj H
            go_enter Try.func31, Try.ntmps31
            go_wp2_with (first | ((with_reducible refine gate_dst (N := 1) rfl ?_); (try (refine gate_guard (by rfl) ?_; dsimp only)); refine box_event ?hg (N := 1) ?hd (cs := #[.slice A0_0 l0_0.length c0_0, .slice A0_1 l0_1.length c0_1, .int .i64 a0_2, .int .i64 a0_3]) (t := 30) ?hr ?_; (case hd => rfl); (case hg => rfl); (case hr => first | (go_simp; done) | (go_simp; rfl)); intro gb304 hg w18 hbox hb; have n0_ := Aside0.mk (below_step (by repeat (first | (with_reducible first | exact HB.out | apply below_alloc | apply pw_below_drewN | apply below_drew1) | exact HB.out)) hb); have n1_ := Aside0.mk (hbox); have n2_ := Aside0.mk ((by rw [hg]; exact (below_size (by repeat (first | (with_reducible first | exact HB.out | apply below_alloc | apply pw_below_drewN | apply below_drew1) | exact HB.out))) : w.heap.size ≤ gb304)); have n3_ := Aside0.mk ((by rw [hg]; exact (below_size (by repeat (first | (with_reducible first | exact HB.out | apply below_alloc | apply pw_below_drewN | apply below_drew1) | exact HB.out))) : w.heap.size ≤ gb304)); clear HB; have HB := n0_; have BK304 := n1_; have GW304 := n2_; have GE304 := n3_; clear n0_ n1_ n2_ n3_; clear hb hbox hg; have hcz19_0 : w18.cell? ⟨gb304, 0, none⟩ = some (.slice A0_0 l0_0.length c0_0) := (blk_cell BK304.out 0).trans rfl; have hcz19_1 : w18.cell? ⟨gb304, 1, none⟩ = some (.slice A0_1 l0_1.length c0_1) := (blk_cell BK304.out 1).trans rfl; have hcz19_2 : w18.cell? ⟨gb304, 2, none⟩ = some (.int .i64 a0_2) := (blk_cell BK304.out 2).trans rfl; have hcz19_3 : w18.cell? ⟨gb304, 3, none⟩ = some (.int .i64 a0_3) := (blk_cell BK304.out 3).trans rfl; have hfz19_0 := blk_frozen BK304.out 0; have hfz19_1 := blk_frozen BK304.out 1; have hfz19_2 := blk_frozen BK304.out 2; have hfz19_3 := blk_frozen BK304.out 3) | (go_at_call 68; (with_reducible refine (has_DiskOk_1.calls _ _ l0_0 false _ ?side1 ?side2 A3.out).mono ?_); (case side1 => repeat (first | exact (Kd.C_below HR0_0.out HB.out) | (with_reducible refine Kd.C_alloc ?_ _) | (with_reducible refine Kd.C_drewN ?_ _) | (with_reducible refine Kd.C_drew ?_))); (case side2 => exact HC0_0.out); rintro e w' ⟨rfl, ⟨nd, rfl⟩⟩) | (go_at_call 70; (with_reducible refine (has_DiskOk_2.calls _ _ l0_1 false _ ?side1 ?side2 A8.out).mono ?_); (case side1 => repeat (first | exact (Kd.C_below HR0_1.out (by repeat (first | (with_reducible first | exact HB.out | apply below_alloc | apply pw_below_drewN | apply below_drew1 | refine below_set ?_ GE304.out) | exact HB.out))) | (with_reducible refine Kd.C_alloc ?_ _) | (with_reducible refine Kd.C_drewN ?_ _) | (with_reducible refine Kd.C_drew ?_))); (case side2 => exact HC0_1.out); rintro e w20 ⟨rfl, hb⟩; have n0_ := Aside0.mk (blk_below (g := gb304) (o := .cells #[.slice A0_0 l0_0.length c0_0, .slice A0_1 l0_1.length c0_1, .int .i64 a0_2, .int .i64 a0_3] 30 (0, 0)) (by (with_reducible repeat (first | refine blk_drewN ?_ _ | refine blk_drew ?_ | refine blk_alloc ?_ _)); exact BK304.out) hb); have n1_ := Aside0.mk (below_step (by repeat (first | (with_reducible first | exact HB.out | apply below_alloc | apply pw_below_drewN | apply below_drew1 | refine below_set ?_ GE304.out) | exact HB.out)) hb); clear BK304; clear HB; have BK304 := n0_; have HB := n1_; clear n0_ n1_; (try clear hb); (try clear hb2); (try clear hk); (try clear hi); have hcz21_0 : w20.cell? ⟨gb304, 0, none⟩ = some (.slice A0_0 l0_0.length c0_0) := (blk_cell BK304.out 0).trans rfl; have hcz21_1 : w20.cell? ⟨gb304, 1, none⟩ = some (.slice A0_1 l0_1.length c0_1) := (blk_cell BK304.out 1).trans rfl; have hcz21_2 : w20.cell? ⟨gb304, 2, none⟩ = some (.int .i64 a0_2) := (blk_cell BK304.out 2).trans rfl; have hcz21_3 : w20.cell? ⟨gb304, 3, none⟩ = some (.int .i64 a0_3) := (blk_cell BK304.out 3).trans rfl; have hfz21_0 := blk_frozen BK304.out 0; have hfz21_1 := blk_frozen BK304.out 1; have hfz21_2 := blk_frozen BK304.out 2; have hfz21_3 := blk_frozen BK304.out 3))
            go_ret
            exact ⟨by first | rfl | (simp [errW_none, errW_some] <;> rfl) | (simp [*, errW_none, errW_some] <;> rfl), by repeat (first | (with_reducible first | exact HB.out | apply below_alloc | apply pw_below_drewN | apply below_drew1 | refine below_set ?_ GE304.out) | exact HB.out)⟩
      · rw [if_neg c7] at H
        have c7b0 : decide ((l0_1.length : Int) ≤ 100) = false := decide_eq_false c7
        have c7b1 : decide (l0_1.length ≤ 100) = false := decide_eq_false (by omega)
        clear c7
        obtain rfl := Option.some.inj H
        go_enter Try.func31, Try.ntmps31
        go_wp2_with (first | ((with_reducible refine gate_dst (N := 1) rfl ?_); (try (refine gate_guard (by rfl) ?_; dsimp only)); refine box_event ?hg (N := 1) ?hd (cs := #[.slice A0_0 l0_0.length c0_0, .slice A0_1 l0_1.length c0_1, .int .i64 a0_2, .int .i64 a0_3]) (t := 30) ?hr ?_; (case hd => rfl); (case hg => rfl); (case hr => first | (go_simp; done) | (go_simp; rfl)); intro gb304 hg w22 hbox hb; have n0_ := Aside0.mk (below_step (by repeat (first | (with_reducible first | exact HB.out | apply below_alloc | apply pw_below_drewN | apply below_drew1) | exact HB.out)) hb); have n1_ := Aside0.mk (hbox); have n2_ := Aside0.mk ((by rw [hg]; exact (below_size (by repeat (first | (with_reducible first | exact HB.out | apply below_alloc | apply pw_below_drewN | apply below_drew1) | exact HB.out))) : w.heap.size ≤ gb304)); have n3_ := Aside0.mk ((by rw [hg]; exact (below_size (by repeat (first | (with_reducible first | exact HB.out | apply below_alloc | apply pw_below_drewN | apply below_drew1) | exact HB.out))) : w.heap.size ≤ gb304)); clear HB; have HB := n0_; have BK304 := n1_; have GW304 := n2_; have GE304 := n3_; clear n0_ n1_ n2_ n3_; clear hb hbox hg; have hcz23_0 : w22.cell? ⟨gb304, 0, none⟩ = some (.slice A0_0 l0_0.length c0_0) := (blk_cell BK304.out 0).trans rfl; have hcz23_1 : w22.cell? ⟨gb304, 1, none⟩ = some (.slice A0_1 l0_1.length c0_1) := (blk_cell BK304.out 1).trans rfl; have hcz23_2 : w22.cell? ⟨gb304, 2, none⟩ = some (.int .i64 a0_2) := (blk_cell BK304.out 2).trans rfl; have hcz23_3 : w22.cell? ⟨gb304, 3, none⟩ = some (.int .i64 a0_3) := (blk_cell BK304.out 3).trans rfl; have hfz23_0 := blk_frozen BK304.out 0; have hfz23_1 := blk_frozen BK304.out 1; have hfz23_2 := blk_frozen BK304.out 2; have hfz23_3 := blk_frozen BK304.out 3) | (go_at_call 68; (with_reducible refine (has_DiskOk_1.calls _ _ l0_0 false _ ?side1 ?side2 A3.out).mono ?_); (case side1 => repeat (first | exact (Kd.C_below HR0_0.out HB.out) | (with_reducible refine Kd.C_alloc ?_ _) | (with_reducible refine Kd.C_drewN ?_ _) | (with_reducible refine Kd.C_drew ?_))); (case side2 => exact HC0_0.out); rintro e w' ⟨rfl, ⟨nd, rfl⟩⟩))
        go_ret
        exact ⟨by first | rfl | (simp [errW_none, errW_some] <;> rfl) | (simp [*, errW_none, errW_some] <;> rfl), by repeat (first | (with_reducible first | exact HB.out | apply below_alloc | apply pw_below_drewN | apply below_drew1 | refine below_set ?_ GE304.out) | exact HB.out)⟩
  · rw [if_neg c2] at H
    have c2b0 : ((l0_0.length : Int) == 42) = false := beq_eq_false_iff_ne.mpr c2
    have c2b1 : ((l0_0.length : Int) != 42) = true := bne_iff_ne.mpr c2
    obtain rfl := Option.some.inj H
    go_enter Try.func31, Try.ntmps31
    go_wp2_with (first | ((with_reducible refine gate_dst (N := 1) rfl ?_); (try (refine gate_guard (by rfl) ?_; dsimp only)); refine box_event ?hg (N := 1) ?hd (cs := #[.slice A0_0 l0_0.length c0_0, .slice A0_1 l0_1.length c0_1, .int .i64 a0_2, .int .i64 a0_3]) (t := 30) ?hr ?_; (case hd => rfl); (case hg => rfl); (case hr => first | (go_simp; done) | (go_simp; rfl)); intro gb304 hg w24 hbox hb; have n0_ := Aside0.mk (below_step (by repeat (first | (with_reducible first | exact HB.out | apply below_alloc | apply pw_below_drewN | apply below_drew1) | exact HB.out)) hb); have n1_ := Aside0.mk (hbox); have n2_ := Aside0.mk ((by rw [hg]; exact (below_size (by repeat (first | (with_reducible first | exact HB.out | apply below_alloc | apply pw_below_drewN | apply below_drew1) | exact HB.out))) : w.heap.size ≤ gb304)); have n3_ := Aside0.mk ((by rw [hg]; exact (below_size (by repeat (first | (with_reducible first | exact HB.out | apply below_alloc | apply pw_below_drewN | apply below_drew1) | exact HB.out))) : w.heap.size ≤ gb304)); clear HB; have HB := n0_; have BK304 := n1_; have GW304 := n2_; have GE304 := n3_; clear n0_ n1_ n2_ n3_; clear hb hbox hg; have hcz25_0 : w24.cell? ⟨gb304, 0, none⟩ = some (.slice A0_0 l0_0.length c0_0) := (blk_cell BK304.out 0).trans rfl; have hcz25_1 : w24.cell? ⟨gb304, 1, none⟩ = some (.slice A0_1 l0_1.length c0_1) := (blk_cell BK304.out 1).trans rfl; have hcz25_2 : w24.cell? ⟨gb304, 2, none⟩ = some (.int .i64 a0_2) := (blk_cell BK304.out 2).trans rfl; have hcz25_3 : w24.cell? ⟨gb304, 3, none⟩ = some (.int .i64 a0_3) := (blk_cell BK304.out 3).trans rfl; have hfz25_0 := blk_frozen BK304.out 0; have hfz25_1 := blk_frozen BK304.out 1; have hfz25_2 := blk_frozen BK304.out 2; have hfz25_3 := blk_frozen BK304.out 3))
    go_ret
    exact ⟨by first | rfl | (simp [errW_none, errW_some] <;> rfl) | (simp [*, errW_none, errW_some] <;> rfl), by repeat (first | (with_reducible first | exact HB.out | apply below_alloc | apply pw_below_drewN | apply below_drew1 | refine below_set ?_ GE304.out) | exact HB.out)⟩

end Go.Proofs.Ytldjfonpegffiaa.Q

namespace Go.Proofs.Ytldjfonpegffiaa.Q
open Go.Shelf
open Go.RowKit Go.Proofs.Ytldjfonpegffiaa.Q Go.Proofs.YtldjfonpegffiaaW.PrintWords Go.Proofs.YtldjfonpegffiaaW.PrintLast Go.Proofs.YtldjfonpegffiaaW.PrintMore
set_option linter.unusedVariables false
set_option linter.unusedSimpArgs false
/-- A block holds these cells. -/
def CellsAt (W : World) (B : Nat) (t : TypeId) (cs : Array Value) : Prop := W.heap[B]? = some (.cells cs t (0, 0))
theorem CellsAt.lt {W : World} {B : Nat} {t : TypeId} {cs : Array Value} (h : CellsAt W B t cs) : B < W.heap.size := (Array.getElem?_eq_some_iff.1 h).1
theorem CellsAt.new (W : World) (t : TypeId) (cs : Array Value) : CellsAt (W.alloc (.cells cs t)) W.heap.size t cs := World.alloc_heap_new W _
theorem CellsAt.kept {W W' : World} {row : Option Nat} {B : Nat} {t : TypeId} {cs : Array Value} (h : CellsAt W B t cs) (hg : W.grownBy W' row) (hne : some B ≠ row) : CellsAt W' B t cs := (hg.block B h.lt hne).trans h
theorem CellsAt.below {W W' : World} {B n : Nat} {t : TypeId} {cs : Array Value} (h : CellsAt W B t cs) (hb : Below n W W') (hn : B < n) : CellsAt W' B t cs := (hb.block B hn).trans h
theorem CellsAt.alloc {W : World} {B : Nat} {t : TypeId} {cs : Array Value} (h : CellsAt W B t cs) (o : Obj) : CellsAt (W.alloc o) B t cs := (Below.heap_alloc W o B h.lt).trans h
theorem CellsAt.drewN {W : World} {B : Nat} {t : TypeId} {cs : Array Value} (h : CellsAt W B t cs) (m : Nat) : CellsAt (W.drewN m) B t cs := h
theorem CellsAt.cell {W : World} {B : Nat} {t : TypeId} {cs : Array Value} (h : CellsAt W B t cs) (j : Nat) : W.cell? ⟨B, j, none⟩ = cs[j]? := by
  simp [World.cell?, show W.heap[B]? = _ from h]
theorem CellsAt.frozen {W : World} {B : Nat} {t : TypeId} {cs : Array Value} (h : CellsAt W B t cs) (j : Nat) : W.frozen? ⟨B, j, none⟩ = false := by simp [World.frozen?, show W.heap[B]? = _ from h]
theorem cellsAt_own {β : Type} (B : Nat) (t : TypeId) (f : β → Array Value) : Own (fun s W => CellsAt W B t (f s)) := fun s X Y row hs hg hrow =>
  hs.kept hg (fun e' => by obtain ⟨o, ho, hc⟩ := hrow B e'.symm; rw [show X.heap[B]? = _ from hs] at ho; cases ho; cases hc)
/-- What has come when k rounds are over. -/
def upto {α : Type} (f : Nat → α) (k : Nat) : List α := (List.range k).map f
theorem upto_succ {α : Type} (f : Nat → α) (k : Nat) : upto f (k + 1) = upto f k ++ [f k] := by simp [upto, List.range_succ]
theorem upto_length {α : Type} (f : Nat → α) (k : Nat) : (upto f k).length = k := by simp [upto]
/-- What a round that goes on keeps: what lay below, and the box of the slice. -/
def KpB (n₀ Bs : Nat) (W W' : World) : Prop := Below n₀ W W' ∧ W'.heap[Bs]? = W.heap[Bs]?
theorem KpB.refl (n₀ Bs : Nat) (W : World) : KpB n₀ Bs W W := ⟨Below.refl _ _, rfl⟩
theorem KpB.trans {n₀ Bs : Nat} {A B C : World} (h : KpB n₀ Bs A B) (k : KpB n₀ Bs B C) : KpB n₀ Bs A C := ⟨h.1.trans k.1, k.2.trans h.2⟩
theorem kpB_b {n₀ Bs : Nat} {w : World} (h0 : n₀ ≤ w.heap.size) (hB : Bs < w.heap.size) : ∀ (W : World) (l : Nat) (o o' : Obj), w.heap.size ≤ l → W.heap[l]? = some o → o.isCells = false → o.isWalk = false → KpB n₀ Bs W (W.putObj l o') :=
  fun W l o o' hl h1 h2 h3 => ⟨belowK_b h0 W l o o' hl h1 h2 h3, World.putObj_heap_other (by omega)⟩
theorem Below.drewN_ {n : Nat} (w : World) (m : Nat) : Below n w (w.drewN m) := ⟨rfl, rfl, rfl, Nat.le_refl _, fun _ _ => rfl⟩
end Go.Proofs.Ytldjfonpegffiaa.Q

namespace Go.Proofs.Ytldjfonpegffiaa.Q
open Go.Deep Go.WideShapes Go.ChangeShapes
open Go.RowKit Go.Proofs.Ytldjfonpegffiaa.Q Go.Proofs.YtldjfonpegffiaaW.PrintWords Go.Proofs.YtldjfonpegffiaaW.PrintLast Go.Proofs.YtldjfonpegffiaaW.PrintMore
set_option linter.unusedVariables false
set_option linter.unusedSimpArgs false
/-- Whatever reads as data of type t is told by the kind d, and what it tells meets wf. -/
def Opens {α : Type} (P : Program) (t : TypeId) (d : Kd α) (wf : α → Prop) : Prop :=
  ∀ (H : Type) (enc : TypeId × Value → H) (w : World) (base : Nat) (spare : Nat → Bool) (held : Bool) (fuel : Nat) (cs : List Value) (x : DataW H × List MemPlace),
    DataW.trod enc P w base spare held fuel t cs = some x → ∃ y, d.K w y cs ∧ wf y
theorem opens_int {P : Program} {t : TypeId} {k : IntKind} (ht : P.underlying t = some (.int k)) : Opens P t (Kd.int k) (fun n => (Lit.int k n).wf = true) := by
  intro H enc w base spare held fuel cs x h
  obtain ⟨n, rfl, _, hw⟩ := DataW.trod_int ht h
  exact ⟨n, rfl, hw⟩
theorem opens_string {P : Program} {t : TypeId} (ht : P.underlying t = some .string) : Opens P t Kd.string (fun s => s.size ≤ maxLen) := by
  intro H enc w base spare held fuel cs x h
  obtain ⟨n, rfl, _, hw⟩ := DataW.trod_string ht h
  exact ⟨n, rfl, hw⟩
theorem addr_add_add (a : Addr) (i j : Nat) : (a.add i).add j = a.add (i + j) := by
  by_cases hi : i = 0
  · subst hi; simp [Addr.add]
  · by_cases hj : j = 0
    · subst hj; simp [Addr.add]
    · simp [Addr.add, hi, hj, Nat.add_assoc]
theorem opens_slice {α : Type} {P : Program} {t e : TypeId} {d : Kd α} {wf : α → Prop} (ht : P.underlying t = some (.slice e)) (hd : Opens P e d wf) (hs : P.cellsOf e = d.sz) :
    Opens P t (Kd.slice e d) (fun l => l.length ≤ maxLen ∧ ∀ y ∈ l, wf y) := by
  intro H enc w base spare held fuel cs x h
  rcases open_slice ht h with ⟨rfl, _⟩ | ⟨a, len, cap, m, n, D, Pl, rfl, hb, hl, hm, hmm, _, hx⟩
  · exact ⟨[], ⟨none, 0, rfl, Nat.le_refl _, Kd.C_nil _ _⟩, by simp, by simp⟩
  · have hlm : len ≤ m := by rw [hmm]; split <;> omega
    have key : ∀ k, k ≤ len → ∃ ys : List α, ys.length = k ∧ ∀ j y, ys[j]? = some y → wf y ∧ ∃ c, c.length = d.sz ∧ d.K w y c ∧ ∀ i u, c[i]? = some u → w.cell? (a.add (j * d.sz + i)) = some u := by
      intro k
      induction k with
      | zero => intro _; exact ⟨[], rfl, fun j y hj => by simp at hj⟩
      | succ k ih =>
        intro hk
        obtain ⟨ys, hy, hall⟩ := ih (by omega)
        obtain ⟨cs', hc, htr⟩ := hx k (by omega)
        obtain ⟨y, hK, hw⟩ := hd H enc w base spare held n cs' _ htr
        rw [hs] at hc
        obtain ⟨_, hlen, hcell⟩ := World.cells?_some hc
        refine ⟨ys ++ [y], by simp [hy], fun j z hj => ?_⟩
        by_cases hjk : j < k
        · exact hall j z (by rw [List.getElem?_append_left (by omega)] at hj; exact hj)
        · have hj2 : j < (ys ++ [y]).length := (List.getElem?_eq_some_iff.1 hj).1
          simp [hy] at hj2
          obtain rfl : j = k := by omega
          rw [List.getElem?_append_right (by omega)] at hj
          simp [hy] at hj
          subst hj
          exact ⟨hw, cs', hlen, hK, fun i u hu => by
            have hi : i < d.sz := by have := (List.getElem?_eq_some_iff.1 hu).1; omega
            rw [← addr_add_add, hcell i hi]; exact hu⟩
    obtain ⟨ys, hy, hall⟩ := key len (Nat.le_refl _)
    subst hy
    have hmx : ys.length ≤ 9223372036854775807 := by have := hl; have h2 := hm; unfold maxLen at h2; omega
    exact ⟨ys, ⟨some a, cap, rfl, hl, rfl, hmx, fun _ => ⟨a, rfl, fun j p hp => (hall j p hp).2⟩⟩, by unfold maxLen; exact hmx, fun y hm' => by
      obtain ⟨j, hj⟩ := List.getElem?_of_mem hm'
      exact (hall j y hj).1⟩
/-- The fields from an offset on. -/
def OpensL {α : Type} (P : Program) (fs : List Field) (off : Nat) (d : Kd α) (wf : α → Prop) : Prop :=
  ∀ (H : Type) (enc : TypeId × Value → H) (w : World) (base : Nat) (spare : Nat → Bool) (held : Bool) (n : Nat) (cs : List Value),
    (∀ f ∈ fs, ∃ x, DataW.trod enc P w base spare held n f.type ((cs.drop f.offset).take (P.cellsOf f.type)) = some x) → cs.length = off + d.sz → ∃ y, d.K w y (cs.drop off) ∧ wf y
theorem opensL_one {α : Type} {P : Program} {f : Field} {d : Kd α} {wf : α → Prop} (h0 : Opens P f.type d wf) (hh : P.cellsOf f.type = d.sz) : OpensL P [f] f.offset d wf := by
  intro H enc w base spare held n cs hf hl
  obtain ⟨x, hx⟩ := hf f (by simp)
  rw [List.take_of_length_le (by rw [List.length_drop]; omega)] at hx
  exact h0 H enc w base spare held n _ x hx
theorem opensL_cons {α β : Type} {P : Program} {f : Field} {fs : List Field} {off : Nat} {d0 : Kd α} {d1 : Kd β} {wf0 : α → Prop} {wf1 : β → Prop} (hh : (f.offset + d0.sz, P.cellsOf f.type) = (off, d0.sz))
    (h0 : Opens P f.type d0 wf0) (h1 : OpensL P fs off d1 wf1) : OpensL P (f :: fs) f.offset (Kd.pair d0 d1) (fun y => wf0 y.1 ∧ wf1 y.2) := by
  intro H enc w base spare held n cs hf hl
  obtain ⟨ho, hs⟩ := Prod.mk.inj hh
  subst ho
  have hl' : cs.length = f.offset + (d0.sz + d1.sz) := hl
  obtain ⟨x, hx⟩ := hf f (by simp)
  rw [hs] at hx
  obtain ⟨y0, hy0, hw0⟩ := h0 H enc w base spare held n _ x hx
  obtain ⟨y1, hy1, hw1⟩ := h1 H enc w base spare held n cs (fun g hg => hf g (List.mem_cons_of_mem _ hg)) (by omega)
  refine ⟨(y0, y1), ⟨_, _, ?_, hy0, hy1⟩, hw0, hw1⟩
  rw [← List.drop_drop]
  exact (List.take_append_drop d0.sz (cs.drop f.offset)).symm
theorem opens_struct {α : Type} {P : Program} {t : TypeId} {fs : Array Field} {off : Nat} {d : Kd α} {wf : α → Prop} (ht : P.underlying t = some (.struct fs)) (hz : (P.cellsOf t, off) = (d.sz, 0)) (h : OpensL P fs.toList off d wf) : Opens P t d wf := by
  intro H enc w base spare held fuel cs x hx
  obtain ⟨hc, rfl⟩ := Prod.mk.inj hz
  obtain ⟨xs, n, _, _, hl, hlen, hall⟩ := DataW.trod_struct ht hx
  obtain ⟨y, hy, hw⟩ := h H enc w base spare held n cs (fun f hf => by
    obtain ⟨i, hi⟩ := List.getElem?_of_mem hf
    have hi' : fs[i]? = some f := by simpa using hi
    have hlt : i < fs.size := (Array.getElem?_eq_some_iff.1 hi').1
    exact ⟨_, (hall i f hi').trans (List.getElem?_eq_getElem (by omega))⟩) (by omega)
  exact ⟨y, by simpa using hy, hw⟩
theorem opens_arg_struct {α : Type} {P : Program} {t : TypeId} {fs : Array Field} {d : Kd α} {wf : α → Prop} (ht : P.underlying t = some (.struct fs)) (ho : Opens P t d wf) {H : Type} {enc : TypeId × Value → H} {W : World} {base b0 : Nat} {spare : Nat → Bool} {held : Bool} {r : Reach} {v : Value} {x : DataW H} {p : List MemPlace}
    (hv : Value.okWide P W r b0 t v) (h : DataW.Trod enc P W base spare held t v x p) : ∃ y, (∃ cs, v = .agg cs ∧ Kd.K d W y cs.toList) ∧ wf y := by
  obtain ⟨cs, rfl, _⟩ := okWide_struct ht hv
  obtain ⟨fuel, hf⟩ := h
  obtain ⟨y, hy, hw⟩ := ho H enc W base spare held fuel _ _ hf
  exact ⟨y, ⟨cs, rfl, hy⟩, hw⟩
end Go.Proofs.Ytldjfonpegffiaa.Q

namespace Go.Proofs.Ytldjfonpegffiaa.Q
open Go.RowKit Go.Proofs.Ytldjfonpegffiaa.Q Go.Proofs.YtldjfonpegffiaaW.PrintWords Go.Proofs.YtldjfonpegffiaaW.PrintLast Go.Proofs.YtldjfonpegffiaaW.PrintMore
def wf117 (x : S117) : Prop := (fun n => (Lit.int .i64 n).wf = true) x.f0 ∧ (fun s => s.size ≤ maxLen) x.f1
theorem opens117 : Opens Try.prog 117 k117 wf117 := by
  intro H enc w base spare held fuel cs x h
  obtain ⟨y, hy, hw⟩ := opens_struct Try.underlying117 (by kernel_rfl) (opensL_cons (by kernel_rfl) (opens_int Try.underlying3) (opensL_one (opens_string Try.underlying9) (by kernel_rfl))) H enc w base spare held fuel cs x h
  exact ⟨⟨y.1, y.2⟩, hy, hw⟩
def wf43 (x : S43) : Prop := (fun l => l.length ≤ maxLen ∧ ∀ y ∈ l, (fun s => s.size ≤ maxLen) y) x.f0 ∧ (fun l => l.length ≤ maxLen ∧ ∀ y ∈ l, wf117 y) x.f1 ∧ (fun n => (Lit.int .i64 n).wf = true) x.f2 ∧ (fun n => (Lit.int .i64 n).wf = true) x.f3
theorem opens43 : Opens Try.prog 43 k43 wf43 := by
  intro H enc w base spare held fuel cs x h
  obtain ⟨y, hy, hw⟩ := opens_struct Try.underlying43 (by kernel_rfl) (opensL_cons (by kernel_rfl) (opens_slice Try.underlying27 (opens_string Try.underlying9) (by kernel_rfl)) (opensL_cons (by kernel_rfl) (opens_slice Try.underlying41 opens117 (by kernel_rfl)) (opensL_cons (by kernel_rfl) (opens_int Try.underlying3) (opensL_one (opens_int Try.underlying3) (by kernel_rfl))))) H enc w base spare held fuel cs x h
  exact ⟨⟨y.1, y.2.1, y.2.2.1, y.2.2.2⟩, hy, hw⟩
end Go.Proofs.Ytldjfonpegffiaa.Q

namespace Go.Proofs.Ytldjfonpegffiaa.Q
open Go.RowKit Go.Proofs.Ytldjfonpegffiaa.Q Go.Proofs.YtldjfonpegffiaaW.PrintWords Go.Proofs.YtldjfonpegffiaaW.PrintLast Go.Proofs.YtldjfonpegffiaaW.PrintMore
set_option linter.unusedVariables false
set_option linter.unusedSimpArgs false
theorem wrap64_id {n : Int} (h0 : -9223372036854775808 ≤ n) (h1 : n ≤ 9223372036854775807) : wrap64 n = n := by unfold wrap64; omega
end Go.Proofs.Ytldjfonpegffiaa.Q

namespace Go.Proofs.Ytldjfonpegffiaa.Q
open Go.RowKit Go.Proofs.Ytldjfonpegffiaa.Q Go.Proofs.YtldjfonpegffiaaW.PrintWords Go.Proofs.YtldjfonpegffiaaW.PrintLast Go.Proofs.YtldjfonpegffiaaW.PrintMore
set_option linter.unusedVariables false
set_option linter.unusedSimpArgs false
theorem laws_eqStringS_loop (l : List ByteArray) (hl : (l.length : Int) ≤ 4611686018427387904) : ∀ (d : Nat) (i : Int), 0 ≤ i → (l.length : Int) - i = d → Ev (fun k => laws_eqStringS.l0 k l l i) true := by
  intro d
  induction d with
  | zero =>
    intro i h0 hd
    exact Ev.step (f := fun _ => some true) (fun k => by simp only [laws_eqStringS.l0]; rw [if_neg (by omega)]) (Ev.now _)
  | succ d ih =>
    intro i h0 hd
    have hlt : i < (l.length : Int) := by omega
    have ei : wrap64 (i + 1) = i + 1 := wrap64_id (by omega) (by omega)
    exact Ev.step (fun k => by rw [laws_eqStringS.l0, if_pos hlt, if_pos h0, if_pos hlt, if_pos rfl, ei]) (ih (i + 1) (by omega) (by omega))
theorem laws_eqStringS_ev (x0 : List ByteArray) (h0 : (x0.length : Int) ≤ 4611686018427387904) : Ev (fun k => laws_eqStringS.f k x0 x0) true := by
  unfold laws_eqStringS.f
  exact Ev.congr (fun k => if_pos rfl) (laws_eqStringS_loop x0 h0 x0.length 0 (by omega) (by omega))
theorem laws_eqWait_ev (x0 : Int) (x1 : ByteArray)  : Ev (fun k => laws_eqWait.f x0 x1 x0 x1) true := by
  unfold laws_eqWait.f
  try simp only [if_true]
  try simp only [if_true]
  exact Ev.now _
theorem laws_eqWaitS_loop (l : List (S54)) (hl : (l.length : Int) ≤ 4611686018427387904) : ∀ (d : Nat) (i : Int), 0 ≤ i → (l.length : Int) - i = d → Ev (fun k => laws_eqWaitS.l0 k l l i) true := by
  intro d
  induction d with
  | zero =>
    intro i h0 hd
    exact Ev.step (f := fun _ => some true) (fun k => by simp only [laws_eqWaitS.l0]; rw [if_neg (by omega)]) (Ev.now _)
  | succ d ih =>
    intro i h0 hd
    have hlt : i < (l.length : Int) := by omega
    have ei : wrap64 (i + 1) = i + 1 := wrap64_id (by omega) (by omega)
    exact Ev.step (fun k => by rw [laws_eqWaitS.l0, if_pos hlt, if_pos h0, if_pos hlt, ei]) (Ev.bind (laws_eqWait_ev ((rd_T54 l i).f0) ((rd_T54 l i).f1) ) (Ev.congr (fun k => if_pos rfl) (ih (i + 1) (by omega) (by omega))))
theorem laws_eqWaitS_ev (x0 : List (S54)) (h0 : (x0.length : Int) ≤ 4611686018427387904) : Ev (fun k => laws_eqWaitS.f k x0 x0) true := by
  unfold laws_eqWaitS.f
  exact Ev.congr (fun k => if_pos rfl) (laws_eqWaitS_loop x0 h0 x0.length 0 (by omega) (by omega))
theorem laws_eqDisk_ev (x0 : List ByteArray) (x1 : List (S54)) (x2 : Int) (x3 : Int) (h0 : (x0.length : Int) ≤ 4611686018427387904) (h1 : (x1.length : Int) ≤ 4611686018427387904) : Ev (fun k => laws_eqDisk.f k x0 x1 x2 x3 x0 x1 x2 x3) true := by
  unfold laws_eqDisk.f
  refine Ev.bind (laws_eqStringS_ev x0 h0) (Ev.congr (fun k => if_pos rfl) ?_)
  refine Ev.bind (laws_eqWaitS_ev x1 h1) (Ev.congr (fun k => if_pos rfl) ?_)
  try simp only [if_true]
  try simp only [if_true]
  exact Ev.now _
theorem laws_szStringS_loop (l : List ByteArray) (hl : (l.length : Int) ≤ 4611686018427387904) (hw : ∀ y ∈ l, (fun s => s.size ≤ maxLen) y) : ∀ (d : Nat) (i a : Int), 0 ≤ i → i ≤ (l.length : Int) → (l.length : Int) - i = d → 0 ≤ a → a ≤ 1048576 →
    ∃ r, Ev (fun k => laws_szStringS.l0 k l a i) r ∧ (r = -1 ∨ (0 ≤ r ∧ r ≤ a ∧ ∀ y ∈ l.drop i.toNat, y.size ≤ 1048576)) := by
  intro d
  induction d with
  | zero =>
    intro i a h0 h1 hd ha hb
    have e : i.toNat = l.length := by omega
    exact ⟨a, Ev.step (f := fun _ => some a) (fun k => by simp only [laws_szStringS.l0]; rw [if_neg (by omega)]) (Ev.now a), .inr ⟨ha, Int.le_refl _, fun y hy => by rw [e, List.drop_length] at hy; cases hy⟩⟩
  | succ d ih =>
    intro i a h0 h1 hd ha hb
    have hlt : i < (l.length : Int) := by omega
    have ei : wrap64 (i + 1) = i + 1 := wrap64_id (by omega) (by omega)
    have hdrop : l.drop i.toNat = rdOf ByteArray.empty l i :: l.drop (i + 1).toNat := by
      have e : (i + 1).toNat = i.toNat + 1 := by omega
      rw [e, List.drop_eq_getElem_cons (by omega)]
      congr 1
      simp only [rdOf]
      rw [List.getD_eq_getElem?_getD, List.getElem?_eq_getElem (by omega)]
      rfl
    have hmem : rdOf ByteArray.empty l i ∈ l := List.mem_of_mem_drop (i := i.toNat) (by rw [hdrop]; exact List.mem_cons_self)
    have hwy := hw _ hmem
    have hsz : ((rdOf ByteArray.empty l i).size : Int) ≤ 9223372036854775807 := by have : (rdOf ByteArray.empty l i).size ≤ maxLen := hwy; unfold maxLen at this; omega
    have ew : wrap64 (a - ((rdOf ByteArray.empty l i).size : Int)) = a - ((rdOf ByteArray.empty l i).size : Int) := wrap64_id (by omega) (by omega)
    by_cases hn : a - ((rdOf ByteArray.empty l i).size : Int) < 0
    · exact ⟨-1, Ev.step (f := fun _ => some (-1)) (fun k => by simp only [laws_szStringS.l0]; rw [if_pos hlt, if_pos h0, ew, if_pos hn]) (Ev.now _), .inl rfl⟩
    · obtain ⟨r, hr, hc⟩ := ih (i + 1) (a - ((rdOf ByteArray.empty l i).size : Int)) (by omega) (by omega) (by omega) (by omega) (by omega)
      refine ⟨r, Ev.step (fun k => by simp only [laws_szStringS.l0]; rw [if_pos hlt, if_pos h0, ew, if_neg hn, ei]) hr, ?_⟩
      rcases hc with hc | ⟨hc0, hc1, hc2⟩
      · exact .inl hc
      · refine .inr ⟨hc0, by omega, fun y hy => ?_⟩
        rw [hdrop] at hy
        rcases List.mem_cons.1 hy with rfl | hy
        · omega
        · exact hc2 y hy
theorem laws_szStringS_ev (x0 : List ByteArray) (a : Int) (h0 : 0 ≤ a) (h1 : a ≤ 1048576) (w0 : (fun l => l.length ≤ maxLen ∧ ∀ y ∈ l, (fun s => s.size ≤ maxLen) y) x0) : ∃ r, Ev (fun k => laws_szStringS.f k x0 a) r ∧ (r = -1 ∨ (0 ≤ r ∧ r ≤ a ∧ (x0.length ≤ 1048576 ∧ ∀ y ∈ x0, y.size ≤ 1048576))) := by
  have hl : (x0.length : Int) ≤ 9223372036854775807 := by have := w0.1; unfold maxLen at this; omega
  have e : wrap64 (a - (x0.length : Int)) = a - (x0.length : Int) := wrap64_id (by omega) (by omega)
  unfold laws_szStringS.f
  rw [e]
  by_cases h : a - (x0.length : Int) < 0
  · exact ⟨-1, ⟨0, fun k _ => by simp only [if_pos h]⟩, .inl rfl⟩
  · obtain ⟨r, hr, hc⟩ := laws_szStringS_loop x0 (by omega) w0.2 x0.length 0 (a - (x0.length : Int)) (by omega) (by omega) (by omega) (by omega) (by omega)
    refine ⟨r, Ev.congr (fun k => if_neg h) hr, ?_⟩
    rcases hc with hc | ⟨hc0, hc1, hc2⟩
    · exact .inl hc
    · exact .inr ⟨hc0, by omega, by omega, by simpa using hc2⟩
def sm117 (x : S117) : Prop := True ∧ x.f1.size ≤ 1048576
theorem laws_szWait_ev (x0 : Int) (x1 : ByteArray) (a : Int) (h0 : 0 ≤ a) (h1 : a ≤ 1048576) (w1 : (fun s => s.size ≤ maxLen) x1) : ∃ r, Ev (fun k => laws_szWait.f x0 x1 a) r ∧ (r = -1 ∨ (0 ≤ r ∧ r ≤ a ∧ x1.size ≤ 1048576)) := by
  unfold laws_szWait.f
  have e1 : wrap64 (a - (x1.size : Int)) = a - (x1.size : Int) := by have hz : x1.size ≤ maxLen := w1; unfold maxLen at hz; exact wrap64_id (by omega) (by omega)
  rw [e1]
  by_cases hn1 : a - (x1.size : Int) < 0
  · exact ⟨-1, Ev.congr (fun k => if_pos hn1) (Ev.now _), .inl rfl⟩
  exact ⟨(a - (x1.size : Int)), Ev.congr (fun k => if_neg hn1) (Ev.now _), .inr ⟨by omega, by omega, (by omega)⟩⟩
theorem laws_szWaitS_loop (l : List (S117)) (hl : (l.length : Int) ≤ 4611686018427387904) (hw : ∀ y ∈ l, wf117 y) : ∀ (d : Nat) (i a : Int), 0 ≤ i → i ≤ (l.length : Int) → (l.length : Int) - i = d → 0 ≤ a → a ≤ 1048576 →
    ∃ r, Ev (fun k => laws_szWaitS.l0 k l a i) r ∧ (r = -1 ∨ (0 ≤ r ∧ r ≤ a ∧ ∀ y ∈ l.drop i.toNat, sm117 y)) := by
  intro d
  induction d with
  | zero =>
    intro i a h0 h1 hd ha hb
    have e : i.toNat = l.length := by omega
    exact ⟨a, Ev.step (f := fun _ => some a) (fun k => by simp only [laws_szWaitS.l0]; rw [if_neg (by omega)]) (Ev.now a), .inr ⟨ha, Int.le_refl _, fun y hy => by rw [e, List.drop_length] at hy; cases hy⟩⟩
  | succ d ih =>
    intro i a h0 h1 hd ha hb
    have hlt : i < (l.length : Int) := by omega
    have ei : wrap64 (i + 1) = i + 1 := wrap64_id (by omega) (by omega)
    have hdrop : l.drop i.toNat = rd_T117 l i :: l.drop (i + 1).toNat := by
      have e : (i + 1).toNat = i.toNat + 1 := by omega
      rw [e, List.drop_eq_getElem_cons (by omega)]
      congr 1
      simp only [rd_T117]
      rw [List.getD_eq_getElem?_getD, List.getElem?_eq_getElem (by omega)]
      rfl
    have hmem : rd_T117 l i ∈ l := List.mem_of_mem_drop (i := i.toNat) (by rw [hdrop]; exact List.mem_cons_self)
    have hwy := hw _ hmem
    obtain ⟨r1, hr1, hc1⟩ := laws_szWait_ev ((rd_T117 l i).f0) ((rd_T117 l i).f1) a ha hb hwy.2
    have hst : ∀ k, laws_szWaitS.l0 (k + 1) l a i = (laws_szWait.f ((rd_T117 l i).f0) ((rd_T117 l i).f1) a).bind fun t => (if t < 0 then (some (-1)) else (laws_szWaitS.l0 k l t (i + 1))) := fun k => by
      rw [laws_szWaitS.l0, if_pos hlt, if_pos h0, ei]
    rcases hc1 with rfl | ⟨hc10, hc11, hc12⟩
    · exact ⟨-1, Ev.step hst (Ev.bind hr1 (Ev.congr (fun k => if_pos (by decide)) (Ev.now _))), .inl rfl⟩
    · obtain ⟨r, hr, hc⟩ := ih (i + 1) r1 (by omega) (by omega) (by omega) hc10 (by omega)
      refine ⟨r, Ev.step hst (Ev.bind hr1 (Ev.congr (fun k => if_neg (by omega)) hr)), ?_⟩
      rcases hc with hc | ⟨hc0, hc1, hc2⟩
      · exact .inl hc
      · refine .inr ⟨hc0, by omega, fun y hy => ?_⟩
        rw [hdrop] at hy
        rcases List.mem_cons.1 hy with rfl | hy
        · exact ⟨trivial, hc12⟩
        · exact hc2 y hy
theorem laws_szWaitS_ev (x0 : List (S117)) (a : Int) (h0 : 0 ≤ a) (h1 : a ≤ 1048576) (w0 : (fun l => l.length ≤ maxLen ∧ ∀ y ∈ l, wf117 y) x0) : ∃ r, Ev (fun k => laws_szWaitS.f k x0 a) r ∧ (r = -1 ∨ (0 ≤ r ∧ r ≤ a ∧ (x0.length ≤ 1048576 ∧ ∀ y ∈ x0, sm117 y))) := by
  have hl : (x0.length : Int) ≤ 9223372036854775807 := by have := w0.1; unfold maxLen at this; omega
  have e : wrap64 (a - (x0.length : Int)) = a - (x0.length : Int) := wrap64_id (by omega) (by omega)
  unfold laws_szWaitS.f
  rw [e]
  by_cases h : a - (x0.length : Int) < 0
  · exact ⟨-1, ⟨0, fun k _ => by simp only [if_pos h]⟩, .inl rfl⟩
  · obtain ⟨r, hr, hc⟩ := laws_szWaitS_loop x0 (by omega) w0.2 x0.length 0 (a - (x0.length : Int)) (by omega) (by omega) (by omega) (by omega) (by omega)
    refine ⟨r, Ev.congr (fun k => if_neg h) hr, ?_⟩
    rcases hc with hc | ⟨hc0, hc1, hc2⟩
    · exact .inl hc
    · exact .inr ⟨hc0, by omega, by omega, by simpa using hc2⟩
theorem laws_szDisk_ev (x0 : List ByteArray) (x1 : List (S117)) (x2 : Int) (x3 : Int) (a : Int) (h0 : 0 ≤ a) (h1 : a ≤ 1048576) (w0 : (fun l => l.length ≤ maxLen ∧ ∀ y ∈ l, (fun s => s.size ≤ maxLen) y) x0) (w1 : (fun l => l.length ≤ maxLen ∧ ∀ y ∈ l, wf117 y) x1) : ∃ r, Ev (fun k => laws_szDisk.f k x0 x1 x2 x3 a) r ∧ (r = -1 ∨ (0 ≤ r ∧ r ≤ a ∧ (x0.length ≤ 1048576 ∧ ∀ y ∈ x0, y.size ≤ 1048576) ∧ (x1.length ≤ 1048576 ∧ ∀ y ∈ x1, sm117 y))) := by
  unfold laws_szDisk.f
  obtain ⟨r0, hr0, hc0⟩ := laws_szStringS_ev x0 a (by omega) (by omega) w0
  rcases hc0 with rfl | ⟨hl0, hu0, hq0_0⟩
  · exact ⟨-1, Ev.bind hr0 (Ev.congr (fun k => if_pos (by decide)) (Ev.now _)), .inl rfl⟩
  obtain ⟨r1, hr1, hc1⟩ := laws_szWaitS_ev x1 r0 (by omega) (by omega) w1
  rcases hc1 with rfl | ⟨hl1, hu1, hq1_1⟩
  · exact ⟨-1, Ev.bind hr0 (Ev.congr (fun k => if_neg (by omega)) (Ev.bind hr1 (Ev.congr (fun k => if_pos (by decide)) (Ev.now _)))), .inl rfl⟩
  exact ⟨r1, Ev.bind hr0 (Ev.congr (fun k => if_neg (by omega)) (Ev.bind hr1 (Ev.congr (fun k => if_neg (by omega)) (Ev.now _)))), .inr ⟨by omega, by omega, hq0_0, hq1_1⟩⟩
theorem laws_toStringS_loop (l : List ByteArray) (hl : (l.length : Int) ≤ 1099511627776) : ∀ (d : Nat) (i : Int) (acc : List ByteArray), 0 ≤ i → (l.length : Int) - i = d → acc.length = l.length → (∀ j : Nat, (j : Int) < i → acc[j]? = (l)[j]?) →
    Ev (fun k => laws_toStringS.l0 k l acc i) (l) := by
  intro d
  induction d with
  | zero =>
    intro i acc h0 hd ha hj
    have e : acc = l := by
      apply List.ext_getElem?
      intro j
      by_cases hlt : (j : Int) < i
      · exact hj j hlt
      · rw [List.getElem?_eq_none (by omega), List.getElem?_eq_none (by omega)]
    rw [e]
    exact Ev.step (f := fun _ => some l) (fun k => by simp only [laws_toStringS.l0]; rw [if_neg (by omega)]) (Ev.now _)
  | succ d ih =>
    intro i acc h0 hd ha hj
    have hlt : i < (l.length : Int) := by omega
    have ei : wrap64 (i + 1) = i + 1 := wrap64_id (by omega) (by omega)
    have hget : l[i.toNat]? = some (rdOf ByteArray.empty l i) := by
      simp only [rdOf]
      rw [List.getD_eq_getElem?_getD, List.getElem?_eq_getElem (by omega)]
      rfl
    have hnx := ih (i + 1) (acc.set i.toNat (rdOf ByteArray.empty l i)) (by omega) (by omega) (by simpa using ha) (fun j hji => by
      by_cases hj2 : j = i.toNat
      · subst hj2
        rw [List.getElem?_set_self (by omega), hget]
        try rfl
      · rw [List.getElem?_set_ne (by omega)]
        exact hj j (by omega))
    exact Ev.step (fun k => by simp only [laws_toStringS.l0]; rw [if_pos hlt, if_pos h0, if_pos (by omega), ei]) hnx
theorem laws_toStringS_ev (x0 : List ByteArray) (h0 : (x0.length ≤ 1048576 ∧ ∀ y ∈ x0, y.size ≤ 1048576)) : Ev (fun k => laws_toStringS.f k x0) x0 := by
  have hl : (x0.length : Int) ≤ 1048576 := by have := h0.1; omega
  unfold laws_toStringS.f
  refine Ev.congr (fun k => by rw [if_pos (by omega), if_pos (by omega)]) (laws_toStringS_loop x0 (by omega) x0.length 0 _ (by omega) (by omega) (by simp) (fun j hj => by omega))
def cv117_54 (x : S117) : S54 := ⟨x.f0, x.f1⟩
theorem laws_toWait_ev (x0 : Int) (x1 : ByteArray) (h1 : x1.size ≤ 1048576) : Ev (fun k => laws_toWait.f x0 x1) (x0, x1) := by
  unfold laws_toWait.f
  exact Ev.now _
theorem laws_toWaitS_loop (l : List (S117)) (hl : (l.length : Int) ≤ 1099511627776) (hs : ∀ y ∈ l, sm117 y) : ∀ (d : Nat) (i : Int) (acc : List (S54)), 0 ≤ i → (l.length : Int) - i = d → acc.length = l.length → (∀ j : Nat, (j : Int) < i → acc[j]? = (l.map cv117_54)[j]?) →
    Ev (fun k => laws_toWaitS.l0 k l acc i) (l.map cv117_54) := by
  intro d
  induction d with
  | zero =>
    intro i acc h0 hd ha hj
    have e : acc = (l.map cv117_54) := by
      apply List.ext_getElem?
      intro j
      by_cases hlt : (j : Int) < i
      · exact hj j hlt
      · rw [List.getElem?_eq_none (by omega), List.getElem?_eq_none (by rw [List.length_map]; omega)]
    rw [e]
    exact Ev.step (f := fun _ => some (l.map cv117_54)) (fun k => by simp only [laws_toWaitS.l0]; rw [if_neg (by omega)]) (Ev.now _)
  | succ d ih =>
    intro i acc h0 hd ha hj
    have hlt : i < (l.length : Int) := by omega
    have ei : wrap64 (i + 1) = i + 1 := wrap64_id (by omega) (by omega)
    have hget : l[i.toNat]? = some (rd_T117 l i) := by
      simp only [rd_T117]
      rw [List.getD_eq_getElem?_getD, List.getElem?_eq_getElem (by omega)]
      rfl
    have hnx := ih (i + 1) (acc.set i.toNat (cv117_54 (rd_T117 l i))) (by omega) (by omega) (by simpa using ha) (fun j hji => by
      by_cases hj2 : j = i.toNat
      · subst hj2
        rw [List.getElem?_set_self (by omega), List.getElem?_map, hget]
        try rfl
      · rw [List.getElem?_set_ne (by omega)]
        exact hj j (by omega))
    have hmem : rd_T117 l i ∈ l := List.mem_of_getElem? hget
    have hsy := hs _ hmem
    have hr1 := laws_toWait_ev ((rd_T117 l i).f0) ((rd_T117 l i).f1) hsy.2
    exact Ev.step (fun k => by rw [laws_toWaitS.l0, if_pos hlt, if_pos h0, ei]) (Ev.bind hr1 (Ev.congr (fun k => (if_pos (show i < (acc.length : Int) by omega)).trans rfl) hnx))
theorem laws_toWaitS_ev (x0 : List (S117)) (h0 : (x0.length ≤ 1048576 ∧ ∀ y ∈ x0, sm117 y)) : Ev (fun k => laws_toWaitS.f k x0) ((x0).map cv117_54) := by
  have hl : (x0.length : Int) ≤ 1048576 := by have := h0.1; omega
  unfold laws_toWaitS.f
  refine Ev.congr (fun k => by rw [if_pos (by omega), if_pos (by omega)]) (laws_toWaitS_loop x0 (by omega) h0.2 x0.length 0 _ (by omega) (by omega) (by simp) (fun j hj => by omega))
theorem laws_toDisk_ev (x0 : List ByteArray) (x1 : List (S117)) (x2 : Int) (x3 : Int) (h0 : (x0.length ≤ 1048576 ∧ ∀ y ∈ x0, y.size ≤ 1048576)) (h1 : (x1.length ≤ 1048576 ∧ ∀ y ∈ x1, sm117 y)) : Ev (fun k => laws_toDisk.f k x0 x1 x2 x3) (x0, (x1).map cv117_54, x2, x3) := by
  unfold laws_toDisk.f
  refine Ev.bind (laws_toStringS_ev x0 h0) ?_
  refine Ev.bind (laws_toWaitS_ev x1 h1) ?_
  exact Ev.now _
end Go.Proofs.Ytldjfonpegffiaa.Q
