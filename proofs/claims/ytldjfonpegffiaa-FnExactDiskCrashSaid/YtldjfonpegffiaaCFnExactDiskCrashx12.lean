/- A part of the proof that the law FnExactDiskCrash answers true for every input: contracts of functions that it reaches, or its plain law. -/
import Derived.Test.YtldjfonpegffiaaProg
import Derived.Below
import Derived.Deep.Draws
import Derived.Deep.AppendLies
import Derived.Maps.AppendAt
import Derived.OwnWalk
import Derived.Laws.BytesArg
import Derived.Laws.MakeOwn
import Derived.Laws.OwnMore
import Derived.Deep.OwnRows
import Derived.Tactics
import Derived.Lib.ConvBytes
import Derived.Laws.Slices
import Derived.WalkKit
import Derived.KernelRfl
import Derived.RowKit3
import Derived.Deep.LoopGhost
import Derived.Deep.QuietTactic
import Derived.BigQuiet
import Derived.WideLaws
import Derived.Deep.DeepCutAuto
import Derived.Deep.CutBlock
import Derived.Deep.RegionHeld3
import Derived.Laws.Rows
import Derived.Lib.AppendStr
import Derived.ArgAppend
import Derived.Laws.IdiomCopy
import Derived.OrdersHeld
import Derived.Laws.BitsLemmas
import Derived.RowKit
import Derived.IntWalk
import Derived.Test.YtldjfonpegffiaaCFnExactDiskCrashx0
import Derived.Test.YtldjfonpegffiaaCFnExactDiskCrashx1
import Derived.Test.YtldjfonpegffiaaCFnExactDiskCrashx2
import Derived.Test.YtldjfonpegffiaaCFnExactDiskCrashx3
namespace Go.Proofs.Ytldjfonpegffiaa.Q
open Go.RowKit Go.Proofs.YtldjfonpegffiaaW.PrintWords Go.Proofs.YtldjfonpegffiaaW.PrintLast Go.Proofs.YtldjfonpegffiaaW.PrintMore
attribute [local go_sem] max2_int min2_int max_two min_two max_three min_three max_four min_four   -- for this text's walks alone
set_option linter.unusedVariables false
set_option linter.unusedSimpArgs false

/-! ### spec_l7Copy: function 84 -/
def spec_l7Copy.f (l0_0 : List ByteArray) (l0_1 : List (S54)) (a0_2 : Int) (a0_3 : Int) : Option (List ByteArray × (List (S54)) × Int × Int) := (some (([] : List ByteArray) : List ByteArray)).bind fun y372 => (if y372.length + l0_0.length < 8796093022208 then ((some (([] : List (S54)) : List (S54))).bind fun y378 => (if y378.length + l0_1.length < 5864062014805 then (some ((y372 ++ l0_0), (y378 ++ l0_1), a0_2, a0_3)) else (none))) else (none))
set_option maxHeartbeats 8000000 in
set_option maxRecDepth 100000 in
theorem spec_l7Copy.calls (A0_0 : Option Addr) (c0_0 : Nat) (l0_0 : List ByteArray) (A0_1 : Option Addr) (c0_1 : Nat) (l0_1 : List (S54)) (a0_2 : Int) (a0_3 : Int) (r1 : List ByteArray) (r2 : List (S54)) (r3 : Int) (r4 : Int) (w : World) (hr0_0 : Kd.C Kd.string w A0_0 l0_0.length l0_0) (hc0_0 : l0_0.length ≤ c0_0) (hr0_1 : Kd.C k54 w A0_1 l0_1.length l0_1) (hc0_1 : l0_1.length ≤ c0_1) (h : spec_l7Copy.f l0_0 l0_1 a0_2 a0_3 = some (r1, r2, r3, r4)) :
    Calls Try.prog 84 #[.agg #[.slice A0_0 l0_0.length c0_0, .slice A0_1 l0_1.length c0_1, .int .i64 a0_2, .int .i64 a0_3]] w fun e w' => ∃ v0_ v1_ : Value, e = .returned (.agg #[v0_, v1_, .int .i64 r3, .int .i64 r4]) ∧ Kd.R Kd.string 9 w' w.heap.size (fun _ => True) v0_ r1 ∧ Kd.R k54 54 w' w.heap.size (fun _ => True) v1_ r2 ∧ Below w.heap.size w w' := by
  have hu30 := Try.underlying30
  have HR0_0 := Aside0.mk hr0_0
  have HC0_0 := Aside0.mk hc0_0
  clear hr0_0 hc0_0
  have HR0_1 := Aside0.mk hr0_1
  have HC0_1 := Aside0.mk hc0_1
  clear hr0_1 hc0_1
  have HB := Aside0.mk (Below.refl w.heap.size w)
  have H : ((some (([] : List ByteArray) : List ByteArray)).bind fun y372 => (if y372.length + l0_0.length < 8796093022208 then ((some (([] : List (S54)) : List (S54))).bind fun y378 => (if y378.length + l0_1.length < 5864062014805 then (some ((y372 ++ l0_0), (y378 ++ l0_1), a0_2, a0_3)) else (none))) else (none))) = some (r1, r2, r3, r4) := h
  clear h
  obtain ⟨y372, hy372⟩ : ∃ y_ : List ByteArray, y_ = (([] : List ByteArray)) := ⟨_, rfl⟩
  replace H : (if y372.length + l0_0.length < 8796093022208 then ((some (([] : List (S54)) : List (S54))).bind fun y378 => (if y378.length + l0_1.length < 5864062014805 then (some ((y372 ++ l0_0), (y378 ++ l0_1), a0_2, a0_3)) else (none))) else (none)) = some (r1, r2, r3, r4) := by first | (rw [hy372]; with_reducible exact H) | (have H2_ := (Option.bind_some _ _).symm.trans H; rw [hy372]; with_reducible exact H2_) | (have H2_ := (Option.bind_some _ _).symm.trans H; with_reducible exact H2_) | with_reducible exact H | (rw [hy372]; exact H) | exact H
  have Ny372 := Aside0.mk hy372
  clear hy372
  by_cases c2 : y372.length + l0_0.length < 8796093022208
  · rw [if_pos c2] at H
    have LMc2 := Aside0.mk c2
    clear c2
    obtain ⟨y375, hy375⟩ : ∃ y_ : List ByteArray, y_ = (y372 ++ l0_0) := ⟨_, rfl⟩
    replace H : ((some (([] : List (S54)) : List (S54))).bind fun y378 => (if y378.length + l0_1.length < 5864062014805 then (some (y375, (y378 ++ l0_1), a0_2, a0_3)) else (none))) = some (r1, r2, r3, r4) := by first | (rw [hy375]; with_reducible exact H) | (have H2_ := (Option.bind_some _ _).symm.trans H; rw [hy375]; with_reducible exact H2_) | (have H2_ := (Option.bind_some _ _).symm.trans H; with_reducible exact H2_) | with_reducible exact H | (rw [hy375]; exact H) | exact H
    have Ny375 := Aside0.mk hy375
    clear hy375
    obtain ⟨y378, hy378⟩ : ∃ y_ : List (S54), y_ = (([] : List (S54))) := ⟨_, rfl⟩
    replace H : (if y378.length + l0_1.length < 5864062014805 then (some (y375, (y378 ++ l0_1), a0_2, a0_3)) else (none)) = some (r1, r2, r3, r4) := by first | (rw [hy378]; with_reducible exact H) | (have H2_ := (Option.bind_some _ _).symm.trans H; rw [hy378]; with_reducible exact H2_) | (have H2_ := (Option.bind_some _ _).symm.trans H; with_reducible exact H2_) | with_reducible exact H | (rw [hy378]; exact H) | exact H
    have Ny378 := Aside0.mk hy378
    clear hy378
    by_cases c3 : y378.length + l0_1.length < 5864062014805
    · rw [if_pos c3] at H
      have LMc3 := Aside0.mk c3
      clear c3
      obtain ⟨y381, hy381⟩ : ∃ y_ : List (S54), y_ = (y378 ++ l0_1) := ⟨_, rfl⟩
      replace H : (some (y375, y381, a0_2, a0_3)) = some (r1, r2, r3, r4) := by first | (rw [hy381]; with_reducible exact H) | (have H2_ := (Option.bind_some _ _).symm.trans H; rw [hy381]; with_reducible exact H2_) | (have H2_ := (Option.bind_some _ _).symm.trans H; with_reducible exact H2_) | with_reducible exact H | (rw [hy381]; exact H) | exact H
      have Ny381 := Aside0.mk hy381
      clear hy381
      simp only [Option.some.injEq, Prod.mk.injEq] at H
      obtain ⟨rfl, rfl, rfl, rfl⟩ := H
      go_enter Try.func84, Try.ntmps84
      go_wp2_with (first | ((with_reducible refine gate_dst (N := 1) rfl ?_); refine box_event ?hg (N := 1) ?hd (cs := #[.slice A0_0 l0_0.length c0_0, .slice A0_1 l0_1.length c0_1, .int .i64 a0_2, .int .i64 a0_3]) (t := 30) ?hr ?_; (case hd => rfl); (case hg => rfl); (case hr => first | (go_simp; done) | (go_simp; rfl)); intro gb369 hg w4 hbox hb; have n0_ := Aside0.mk (below_step (by repeat (first | (with_reducible first | exact HB.out | apply below_alloc | apply pw_below_drewN | apply below_drew1) | exact HB.out)) hb); have n1_ := Aside0.mk (hbox); have n2_ := Aside0.mk ((by rw [hg]; exact (below_size (by repeat (first | (with_reducible first | exact HB.out | apply below_alloc | apply pw_below_drewN | apply below_drew1) | exact HB.out))) : w.heap.size ≤ gb369)); have n3_ := Aside0.mk ((by rw [hg]; exact (below_size (by repeat (first | (with_reducible first | exact HB.out | apply below_alloc | apply pw_below_drewN | apply below_drew1) | exact HB.out))) : w.heap.size ≤ gb369)); clear HB; have HB := n0_; have BK369 := n1_; have GW369 := n2_; have GE369 := n3_; clear n0_ n1_ n2_ n3_; clear hb hbox hg) | ((with_reducible refine gate_dst (N := 2) rfl ?_); refine box_event ?hg (N := 2) ?hd (cs := #[.slice none 0 0, .slice none 0 0, .int .i64 0, .int .i64 0]) (t := 30) ?hr ?_; (case hd => rfl); (case hg => rfl); (case hr => first | (go_simp; done) | (go_simp; rfl)); intro gb370 hg w5 hbox hb; have n0_ := Aside0.mk (blk_below (g := gb369) (o := .cells #[.slice A0_0 l0_0.length c0_0, .slice A0_1 l0_1.length c0_1, .int .i64 a0_2, .int .i64 a0_3] 30 (0, 0)) (by (with_reducible repeat (first | refine blk_drewN ?_ _ | refine blk_drew ?_ | refine blk_alloc ?_ _)); exact BK369.out) hb); have n1_ := Aside0.mk (below_step (by repeat (first | (with_reducible first | exact HB.out | apply below_alloc | apply pw_below_drewN | apply below_drew1 | refine below_set ?_ GE369.out) | exact HB.out)) hb); have n2_ := Aside0.mk (hbox); have n3_ := Aside0.mk ((by rw [hg]; exact (below_size (by repeat (first | (with_reducible first | exact HB.out | apply below_alloc | apply pw_below_drewN | apply below_drew1 | refine below_set ?_ GE369.out) | exact HB.out))) : w.heap.size ≤ gb370)); have n4_ := Aside0.mk ((by rw [hg]; exact (below_size (by repeat (first | (with_reducible first | exact HB.out | apply below_alloc | apply pw_below_drewN | apply below_drew1 | refine below_set ?_ GE369.out) | exact HB.out))) : w.heap.size ≤ gb370)); have n5_ := Aside0.mk ((by rw [hg]; exact Nat.ne_of_lt (blk_lt (g := gb369) (o := .cells #[.slice A0_0 l0_0.length c0_0, .slice A0_1 l0_1.length c0_1, .int .i64 a0_2, .int .i64 a0_3] 30 (0, 0)) (by (with_reducible repeat (first | refine blk_drewN ?_ _ | refine blk_drew ?_ | refine blk_alloc ?_ _)); exact BK369.out)) : gb369 ≠ gb370)); have n6_ := Aside0.mk ((by rw [hg]; exact Nat.ne_of_gt (blk_lt (g := gb369) (o := .cells #[.slice A0_0 l0_0.length c0_0, .slice A0_1 l0_1.length c0_1, .int .i64 a0_2, .int .i64 a0_3] 30 (0, 0)) (by (with_reducible repeat (first | refine blk_drewN ?_ _ | refine blk_drew ?_ | refine blk_alloc ?_ _)); exact BK369.out)) : gb370 ≠ gb369)); clear BK369; clear HB; have BK369 := n0_; have HB := n1_; have BK370 := n2_; have GW370 := n3_; have GE370 := n4_; have NB369_370 := n5_; have NB370_369 := n6_; clear n0_ n1_ n2_ n3_ n4_ n5_ n6_; clear hb hbox hg; have hnb6 := NB369_370.out; have hnc6 := NB370_369.out; have hcz7_0 : w5.cell? ⟨gb369, 0, none⟩ = some (.slice A0_0 l0_0.length c0_0) := (blk_cell BK369.out 0).trans rfl; have hcz7_1 : w5.cell? ⟨gb369, 1, none⟩ = some (.slice A0_1 l0_1.length c0_1) := (blk_cell BK369.out 1).trans rfl; have hcz7_2 : w5.cell? ⟨gb369, 2, none⟩ = some (.int .i64 a0_2) := (blk_cell BK369.out 2).trans rfl; have hcz7_3 : w5.cell? ⟨gb369, 3, none⟩ = some (.int .i64 a0_3) := (blk_cell BK369.out 3).trans rfl; have hfz7_0 := blk_frozen BK369.out 0; have hfz7_1 := blk_frozen BK369.out 1; have hfz7_2 := blk_frozen BK369.out 2; have hfz7_3 := blk_frozen BK369.out 3) | ((with_reducible refine gate_dst (N := 3) rfl ?_); refine box_event ?hg (N := 3) ?hd (cs := #[.slice none 0 0, .slice none 0 0, .int .i64 0, .int .i64 0]) (t := 30) ?hr ?_; (case hd => rfl); (case hg => rfl); (case hr => first | (go_simp; done) | (go_simp; rfl)); intro gb371 hg w8 hbox hb; have n0_ := Aside0.mk (blk_below (g := gb369) (o := .cells #[.slice A0_0 l0_0.length c0_0, .slice A0_1 l0_1.length c0_1, .int .i64 a0_2, .int .i64 a0_3] 30 (0, 0)) (by (with_reducible repeat (first | refine blk_drewN ?_ _ | refine blk_drew ?_ | refine blk_alloc ?_ _)); exact BK369.out) hb); have n1_ := Aside0.mk (blk_below (g := gb370) (o := .cells #[.slice none 0 0, .slice none 0 0, .int .i64 0, .int .i64 0] 30 (0, 0)) (by (with_reducible repeat (first | refine blk_drewN ?_ _ | refine blk_drew ?_ | refine blk_alloc ?_ _)); exact BK370.out) hb); have n2_ := Aside0.mk (below_step (by repeat (first | (with_reducible first | exact HB.out | apply below_alloc | apply pw_below_drewN | apply below_drew1 | refine below_set ?_ GE369.out | refine below_set ?_ GE370.out) | exact HB.out)) hb); have n3_ := Aside0.mk (hbox); have n4_ := Aside0.mk ((by rw [hg]; exact (below_size (by repeat (first | (with_reducible first | exact HB.out | apply below_alloc | apply pw_below_drewN | apply below_drew1 | refine below_set ?_ GE369.out | refine below_set ?_ GE370.out) | exact HB.out))) : w.heap.size ≤ gb371)); have n5_ := Aside0.mk ((by rw [hg]; exact (below_size (by repeat (first | (with_reducible first | exact HB.out | apply below_alloc | apply pw_below_drewN | apply below_drew1 | refine below_set ?_ GE369.out | refine below_set ?_ GE370.out) | exact HB.out))) : w.heap.size ≤ gb371)); have n6_ := Aside0.mk ((by rw [hg]; exact Nat.ne_of_lt (blk_lt (g := gb369) (o := .cells #[.slice A0_0 l0_0.length c0_0, .slice A0_1 l0_1.length c0_1, .int .i64 a0_2, .int .i64 a0_3] 30 (0, 0)) (by (with_reducible repeat (first | refine blk_drewN ?_ _ | refine blk_drew ?_ | refine blk_alloc ?_ _)); exact BK369.out)) : gb369 ≠ gb371)); have n7_ := Aside0.mk ((by rw [hg]; exact Nat.ne_of_gt (blk_lt (g := gb369) (o := .cells #[.slice A0_0 l0_0.length c0_0, .slice A0_1 l0_1.length c0_1, .int .i64 a0_2, .int .i64 a0_3] 30 (0, 0)) (by (with_reducible repeat (first | refine blk_drewN ?_ _ | refine blk_drew ?_ | refine blk_alloc ?_ _)); exact BK369.out)) : gb371 ≠ gb369)); have n8_ := Aside0.mk ((by rw [hg]; exact Nat.ne_of_lt (blk_lt (g := gb370) (o := .cells #[.slice none 0 0, .slice none 0 0, .int .i64 0, .int .i64 0] 30 (0, 0)) (by (with_reducible repeat (first | refine blk_drewN ?_ _ | refine blk_drew ?_ | refine blk_alloc ?_ _)); exact BK370.out)) : gb370 ≠ gb371)); have n9_ := Aside0.mk ((by rw [hg]; exact Nat.ne_of_gt (blk_lt (g := gb370) (o := .cells #[.slice none 0 0, .slice none 0 0, .int .i64 0, .int .i64 0] 30 (0, 0)) (by (with_reducible repeat (first | refine blk_drewN ?_ _ | refine blk_drew ?_ | refine blk_alloc ?_ _)); exact BK370.out)) : gb371 ≠ gb370)); clear BK369; clear BK370; clear HB; have BK369 := n0_; have BK370 := n1_; have HB := n2_; have BK371 := n3_; have GW371 := n4_; have GE371 := n5_; have NB369_371 := n6_; have NB371_369 := n7_; have NB370_371 := n8_; have NB371_370 := n9_; clear n0_ n1_ n2_ n3_ n4_ n5_ n6_ n7_ n8_ n9_; clear hb hbox hg; have hnb9 := NB371_369.out; have hnc9 := NB369_371.out; have hnb10 := NB371_370.out; have hnc10 := NB370_371.out; have hcz11_0 : w8.cell? ⟨gb371, 0, none⟩ = some (.slice none 0 0) := (blk_cell BK371.out 0).trans rfl; have hcz11_1 : w8.cell? ⟨gb371, 1, none⟩ = some (.slice none 0 0) := (blk_cell BK371.out 1).trans rfl; have hcz11_2 : w8.cell? ⟨gb371, 2, none⟩ = some (.int .i64 0) := (blk_cell BK371.out 2).trans rfl; have hcz11_3 : w8.cell? ⟨gb371, 3, none⟩ = some (.int .i64 0) := (blk_cell BK371.out 3).trans rfl; have hfz11_0 := blk_frozen BK371.out 0; have hfz11_1 := blk_frozen BK371.out 1; have hfz11_2 := blk_frozen BK371.out 2; have hfz11_3 := blk_frozen BK371.out 3) | ((with_reducible refine gate_dst (N := 5) rfl ?_); refine Kd.R_lit Kd.string _ 9 ?hg (N := 5) ?hd (xs := ([] : List ByteArray)) (inner := []) (ok := fun _ => True) (okp := fun _ => True) ?hr ?hp (fun _ hk => hk) trivial (Below.refl _ _) (Nat.le_refl _) (by simp) ?_; (case hd => rfl); (case hg => rfl); (case hr => first | (go_simp; done) | (go_simp; rfl)); (case hp => exact (Reps.none _ _)); intro v373 w12 ho13 hb hg_ hnew_; clear hg_ hnew_; (first | rw [← Ny372.out] at ho13 | (simp only [Int.reduceToNat] at ho13; rw [← Ny372.out] at ho13)); have n0_ := Aside0.mk (Kd.R_lower ho13 (below_size (by repeat (first | (with_reducible first | exact HB.out | apply below_alloc | apply pw_below_drewN | apply below_drew1 | refine below_set ?_ GE369.out | refine below_set ?_ GE370.out | refine below_set ?_ GE371.out) | exact HB.out)))); have n1_ := Aside0.mk (blk_below (g := gb369) (o := .cells #[.slice A0_0 l0_0.length c0_0, .slice A0_1 l0_1.length c0_1, .int .i64 a0_2, .int .i64 a0_3] 30 (0, 0)) (by (with_reducible repeat (first | refine blk_drewN ?_ _ | refine blk_drew ?_ | refine blk_alloc ?_ _)); refine blk_far ?_ NB369_371.out _; (with_reducible repeat (first | refine blk_drewN ?_ _ | refine blk_drew ?_ | refine blk_alloc ?_ _)); refine blk_far ?_ NB369_371.out _; (with_reducible repeat (first | refine blk_drewN ?_ _ | refine blk_drew ?_ | refine blk_alloc ?_ _)); refine blk_far ?_ NB369_371.out _; (with_reducible repeat (first | refine blk_drewN ?_ _ | refine blk_drew ?_ | refine blk_alloc ?_ _)); refine blk_far ?_ NB369_371.out _; (with_reducible repeat (first | refine blk_drewN ?_ _ | refine blk_drew ?_ | refine blk_alloc ?_ _)); exact BK369.out) hb); have n2_ := Aside0.mk (blk_below (g := gb370) (o := .cells #[.slice none 0 0, .slice none 0 0, .int .i64 0, .int .i64 0] 30 (0, 0)) (by (with_reducible repeat (first | refine blk_drewN ?_ _ | refine blk_drew ?_ | refine blk_alloc ?_ _)); refine blk_far ?_ NB370_371.out _; (with_reducible repeat (first | refine blk_drewN ?_ _ | refine blk_drew ?_ | refine blk_alloc ?_ _)); refine blk_far ?_ NB370_371.out _; (with_reducible repeat (first | refine blk_drewN ?_ _ | refine blk_drew ?_ | refine blk_alloc ?_ _)); refine blk_far ?_ NB370_371.out _; (with_reducible repeat (first | refine blk_drewN ?_ _ | refine blk_drew ?_ | refine blk_alloc ?_ _)); refine blk_far ?_ NB370_371.out _; (with_reducible repeat (first | refine blk_drewN ?_ _ | refine blk_drew ?_ | refine blk_alloc ?_ _)); exact BK370.out) hb); have n3_ := Aside0.mk (blk_below (g := gb371) (o := .cells #[.slice A0_0 l0_0.length c0_0, .slice A0_1 l0_1.length c0_1, .int .i64 a0_2, .int .i64 a0_3] 30 (0, 0)) (by (with_reducible repeat (first | refine blk_drewN ?_ _ | refine blk_drew ?_ | refine blk_alloc ?_ _)); refine blk_put (cs := #[.slice A0_0 l0_0.length c0_0, .slice A0_1 l0_1.length c0_1, .int .i64 a0_2, .int .i64 0]) ?_ 3 _ rfl; (with_reducible repeat (first | refine blk_drewN ?_ _ | refine blk_drew ?_ | refine blk_alloc ?_ _)); refine blk_put (cs := #[.slice A0_0 l0_0.length c0_0, .slice A0_1 l0_1.length c0_1, .int .i64 0, .int .i64 0]) ?_ 2 _ rfl; (with_reducible repeat (first | refine blk_drewN ?_ _ | refine blk_drew ?_ | refine blk_alloc ?_ _)); refine blk_put (cs := #[.slice A0_0 l0_0.length c0_0, .slice none 0 0, .int .i64 0, .int .i64 0]) ?_ 1 _ rfl; (with_reducible repeat (first | refine blk_drewN ?_ _ | refine blk_drew ?_ | refine blk_alloc ?_ _)); refine blk_put (cs := #[.slice none 0 0, .slice none 0 0, .int .i64 0, .int .i64 0]) ?_ 0 _ rfl; (with_reducible repeat (first | refine blk_drewN ?_ _ | refine blk_drew ?_ | refine blk_alloc ?_ _)); exact BK371.out) hb); have n4_ := Aside0.mk (below_step (by repeat (first | (with_reducible first | exact HB.out | apply below_alloc | apply pw_below_drewN | apply below_drew1 | refine below_set ?_ GE369.out | refine below_set ?_ GE370.out | refine below_set ?_ GE371.out) | exact HB.out)) hb); clear BK369; clear BK370; clear BK371; clear HB; have HO374 := n0_; have BK369 := n1_; have BK370 := n2_; have BK371 := n3_; have HB := n4_; clear n0_ n1_ n2_ n3_ n4_; clear hb ho13; have hcz14_0 : w12.cell? ⟨gb369, 0, none⟩ = some (.slice A0_0 l0_0.length c0_0) := (blk_cell BK369.out 0).trans rfl; have hcz14_1 : w12.cell? ⟨gb369, 1, none⟩ = some (.slice A0_1 l0_1.length c0_1) := (blk_cell BK369.out 1).trans rfl; have hcz14_2 : w12.cell? ⟨gb369, 2, none⟩ = some (.int .i64 a0_2) := (blk_cell BK369.out 2).trans rfl; have hcz14_3 : w12.cell? ⟨gb369, 3, none⟩ = some (.int .i64 a0_3) := (blk_cell BK369.out 3).trans rfl; have hfz14_0 := blk_frozen BK369.out 0; have hfz14_1 := blk_frozen BK369.out 1; have hfz14_2 := blk_frozen BK369.out 2; have hfz14_3 := blk_frozen BK369.out 3) | ((with_reducible refine gate_builtin (b := .append) (xs := #[.tmp 5, .tmp 7]) rfl ?_); at_builtin; refine Kd.R_append_rows Kd.string (w0 := w) w.heap.size rfl (.tmp 5) (.tmp 7) 27 9 (.string ⟨#[]⟩) 16 rfl Try.underlying27 info9 rfl (by decide) (by omega) v373 y372 l0_0 _ _ _ (fun _ => True) (fun _ => False) rfl rfl ?aO ?aR (fun _ _ h => h) (fun _ h => h.elim) ?aF ?aB ?aS ?aL ?_; (case aR => repeat (first | exact (Kd.C_below HR0_0.out HB.out) | (with_reducible refine Kd.C_alloc ?_ _) | (with_reducible refine Kd.C_drewN ?_ _) | (with_reducible refine Kd.C_drew ?_))); (case aB => exact (by repeat (first | (with_reducible first | exact HB.out | apply below_alloc | apply pw_below_drewN | apply below_drew1 | refine below_set ?_ GE369.out | refine below_set ?_ GE370.out | refine below_set ?_ GE371.out) | exact HB.out))); (case aF => exact (fun _ _ => trivial)); (case aO => exact (by (with_reducible repeat (first | apply Kd.R_alloc | apply Kd.R_drewN | apply Kd.R_drew)); exact HO374.out)); (case aS => exact (below_size (by repeat (first | (with_reducible first | exact HB.out | apply below_alloc | apply pw_below_drewN | apply below_drew1 | refine below_set ?_ GE369.out | refine below_set ?_ GE370.out | refine below_set ?_ GE371.out) | exact HB.out)))); (case aL => have := LMc2.out; omega); intro v376 w15 ho hb hg hat; rw [← Ny375.out] at ho; have n0_ := Aside0.mk (blk_grown (g := gb369) (o := .cells #[.slice A0_0 l0_0.length c0_0, .slice A0_1 l0_1.length c0_1, .int .i64 a0_2, .int .i64 a0_3] 30 (0, 0)) (by (with_reducible repeat (first | refine blk_drewN ?_ _ | refine blk_drew ?_ | refine blk_alloc ?_ _)); exact BK369.out) hg (Kd.R_ne HO374.out BK369.out (by decide))); have n1_ := Aside0.mk (blk_grown (g := gb370) (o := .cells #[.slice none 0 0, .slice none 0 0, .int .i64 0, .int .i64 0] 30 (0, 0)) (by (with_reducible repeat (first | refine blk_drewN ?_ _ | refine blk_drew ?_ | refine blk_alloc ?_ _)); exact BK370.out) hg (Kd.R_ne HO374.out BK370.out (by decide))); have n2_ := Aside0.mk (blk_grown (g := gb371) (o := .cells #[.slice A0_0 l0_0.length c0_0, .slice A0_1 l0_1.length c0_1, .int .i64 a0_2, .int .i64 a0_3] 30 (0, 0)) (by (with_reducible repeat (first | refine blk_drewN ?_ _ | refine blk_drew ?_ | refine blk_alloc ?_ _)); exact BK371.out) hg (Kd.R_ne HO374.out BK371.out (by decide))); have n3_ := Aside0.mk (hb); have n4_ := Aside0.mk (ho); clear BK369; clear BK370; clear BK371; clear HB; clear HO374; have BK369 := n0_; have BK370 := n1_; have BK371 := n2_; have HB := n3_; have HO377 := n4_; clear n0_ n1_ n2_ n3_ n4_; clear ho hb hg hat; obtain ⟨Ao16, co16, eo16⟩ := Kd.R_slice HO377.out; subst eo16; have hcz17_0 : w15.cell? ⟨gb371, 0, none⟩ = some (.slice A0_0 l0_0.length c0_0) := (blk_cell BK371.out 0).trans rfl; have hcz17_1 : w15.cell? ⟨gb371, 1, none⟩ = some (.slice A0_1 l0_1.length c0_1) := (blk_cell BK371.out 1).trans rfl; have hcz17_2 : w15.cell? ⟨gb371, 2, none⟩ = some (.int .i64 a0_2) := (blk_cell BK371.out 2).trans rfl; have hcz17_3 : w15.cell? ⟨gb371, 3, none⟩ = some (.int .i64 a0_3) := (blk_cell BK371.out 3).trans rfl; have hfz17_0 := blk_frozen BK371.out 0; have hfz17_1 := blk_frozen BK371.out 1; have hfz17_2 := blk_frozen BK371.out 2; have hfz17_3 := blk_frozen BK371.out 3) | ((with_reducible refine gate_dst (N := 10) rfl ?_); refine Kd.R_lit k54 _ 54 ?hg (N := 10) ?hd (xs := ([] : List (S54))) (inner := []) (ok := fun _ => True) (okp := fun _ => True) ?hr ?hp (fun _ hk => hk) trivial (Below.refl _ _) (Nat.le_refl _) (by simp) ?_; (case hd => rfl); (case hg => rfl); (case hr => first | (go_simp; done) | (go_simp; rfl)); (case hp => exact (Reps.none _ _)); intro v379 w18 ho19 hb hg_ hnew_; clear hg_ hnew_; (first | rw [← Ny378.out] at ho19 | (simp only [Int.reduceToNat] at ho19; rw [← Ny378.out] at ho19)); have n0_ := Aside0.mk (Kd.R_below (by (with_reducible repeat (first | apply Kd.R_alloc | apply Kd.R_drewN | apply Kd.R_drew)); exact (Kd.R_mono (Kd.R_far (p := ⟨gb371, 0, none⟩) (Kd.R_types HO377.out BK371.out (by decide)) (fun _ hk => hk.2) (.slice Ao16 y375.length co16)) (fun _ h_ => h_.1))) hb); have n1_ := Aside0.mk (Kd.R_lower ho19 (below_size (by repeat (first | (with_reducible first | exact HB.out | apply below_alloc | apply pw_below_drewN | apply below_drew1 | refine below_set ?_ GE369.out | refine below_set ?_ GE370.out | refine below_set ?_ GE371.out) | exact HB.out)))); have n2_ := Aside0.mk (blk_below (g := gb369) (o := .cells #[.slice A0_0 l0_0.length c0_0, .slice A0_1 l0_1.length c0_1, .int .i64 a0_2, .int .i64 a0_3] 30 (0, 0)) (by (with_reducible repeat (first | refine blk_drewN ?_ _ | refine blk_drew ?_ | refine blk_alloc ?_ _)); refine blk_far ?_ NB369_371.out _; (with_reducible repeat (first | refine blk_drewN ?_ _ | refine blk_drew ?_ | refine blk_alloc ?_ _)); exact BK369.out) hb); have n3_ := Aside0.mk (blk_below (g := gb370) (o := .cells #[.slice none 0 0, .slice none 0 0, .int .i64 0, .int .i64 0] 30 (0, 0)) (by (with_reducible repeat (first | refine blk_drewN ?_ _ | refine blk_drew ?_ | refine blk_alloc ?_ _)); refine blk_far ?_ NB370_371.out _; (with_reducible repeat (first | refine blk_drewN ?_ _ | refine blk_drew ?_ | refine blk_alloc ?_ _)); exact BK370.out) hb); have n4_ := Aside0.mk (blk_below (g := gb371) (o := .cells #[.slice Ao16 y375.length co16, .slice A0_1 l0_1.length c0_1, .int .i64 a0_2, .int .i64 a0_3] 30 (0, 0)) (by (with_reducible repeat (first | refine blk_drewN ?_ _ | refine blk_drew ?_ | refine blk_alloc ?_ _)); refine blk_put (cs := #[.slice A0_0 l0_0.length c0_0, .slice A0_1 l0_1.length c0_1, .int .i64 a0_2, .int .i64 a0_3]) ?_ 0 _ rfl; (with_reducible repeat (first | refine blk_drewN ?_ _ | refine blk_drew ?_ | refine blk_alloc ?_ _)); exact BK371.out) hb); have n5_ := Aside0.mk (below_step (by repeat (first | (with_reducible first | exact HB.out | apply below_alloc | apply pw_below_drewN | apply below_drew1 | refine below_set ?_ GE369.out | refine below_set ?_ GE370.out | refine below_set ?_ GE371.out) | exact HB.out)) hb); clear HO377; clear BK369; clear BK370; clear BK371; clear HB; have HO377 := n0_; have HO380 := n1_; have BK369 := n2_; have BK370 := n3_; have BK371 := n4_; have HB := n5_; clear n0_ n1_ n2_ n3_ n4_ n5_; clear hb ho19; have hcz20_0 : w18.cell? ⟨gb369, 0, none⟩ = some (.slice A0_0 l0_0.length c0_0) := (blk_cell BK369.out 0).trans rfl; have hcz20_1 : w18.cell? ⟨gb369, 1, none⟩ = some (.slice A0_1 l0_1.length c0_1) := (blk_cell BK369.out 1).trans rfl; have hcz20_2 : w18.cell? ⟨gb369, 2, none⟩ = some (.int .i64 a0_2) := (blk_cell BK369.out 2).trans rfl; have hcz20_3 : w18.cell? ⟨gb369, 3, none⟩ = some (.int .i64 a0_3) := (blk_cell BK369.out 3).trans rfl; have hfz20_0 := blk_frozen BK369.out 0; have hfz20_1 := blk_frozen BK369.out 1; have hfz20_2 := blk_frozen BK369.out 2; have hfz20_3 := blk_frozen BK369.out 3) | ((with_reducible refine gate_builtin (b := .append) (xs := #[.tmp 10, .tmp 12]) rfl ?_); at_builtin; refine Kd.R_append_rows k54 (w0 := w) w.heap.size rfl (.tmp 10) (.tmp 12) 28 54 (.agg #[(.int .i64 0), (.string ⟨#[]⟩)]) 24 rfl Try.underlying28 info54 rfl (by decide) (by omega) v379 y378 l0_1 _ _ _ (fun _ => True) (fun _ => False) rfl rfl ?aO ?aR (fun _ _ h => h) (fun _ h => h.elim) ?aF ?aB ?aS ?aL ?_; (case aR => repeat (first | exact (Kd.C_below HR0_1.out HB.out) | (with_reducible refine Kd.C_alloc ?_ _) | (with_reducible refine Kd.C_drewN ?_ _) | (with_reducible refine Kd.C_drew ?_))); (case aB => exact (by repeat (first | (with_reducible first | exact HB.out | apply below_alloc | apply pw_below_drewN | apply below_drew1 | refine below_set ?_ GE369.out | refine below_set ?_ GE370.out | refine below_set ?_ GE371.out) | exact HB.out))); (case aF => exact (fun _ _ => trivial)); (case aO => exact (by (with_reducible repeat (first | apply Kd.R_alloc | apply Kd.R_drewN | apply Kd.R_drew)); exact HO380.out)); (case aS => exact (below_size (by repeat (first | (with_reducible first | exact HB.out | apply below_alloc | apply pw_below_drewN | apply below_drew1 | refine below_set ?_ GE369.out | refine below_set ?_ GE370.out | refine below_set ?_ GE371.out) | exact HB.out)))); (case aL => have := LMc3.out; omega); intro v382 w21 ho hb hg hat; rw [← Ny381.out] at ho; have n0_ := Aside0.mk (blk_grown (g := gb369) (o := .cells #[.slice A0_0 l0_0.length c0_0, .slice A0_1 l0_1.length c0_1, .int .i64 a0_2, .int .i64 a0_3] 30 (0, 0)) (by (with_reducible repeat (first | refine blk_drewN ?_ _ | refine blk_drew ?_ | refine blk_alloc ?_ _)); exact BK369.out) hg (Kd.R_ne HO380.out BK369.out (by decide))); have n1_ := Aside0.mk (blk_grown (g := gb370) (o := .cells #[.slice none 0 0, .slice none 0 0, .int .i64 0, .int .i64 0] 30 (0, 0)) (by (with_reducible repeat (first | refine blk_drewN ?_ _ | refine blk_drew ?_ | refine blk_alloc ?_ _)); exact BK370.out) hg (Kd.R_ne HO380.out BK370.out (by decide))); have n2_ := Aside0.mk (blk_grown (g := gb371) (o := .cells #[.slice Ao16 y375.length co16, .slice A0_1 l0_1.length c0_1, .int .i64 a0_2, .int .i64 a0_3] 30 (0, 0)) (by (with_reducible repeat (first | refine blk_drewN ?_ _ | refine blk_drew ?_ | refine blk_alloc ?_ _)); exact BK371.out) hg (Kd.R_ne HO380.out BK371.out (by decide))); have n3_ := Aside0.mk (Kd.R_over' (by (with_reducible repeat (first | apply Kd.R_alloc | apply Kd.R_drewN | apply Kd.R_drew)); exact HO377.out) (Kd.R_typed (by (with_reducible repeat (first | apply Kd.R_alloc | apply Kd.R_drewN | apply Kd.R_drew)); exact HO380.out)) (by decide) hg); have n4_ := Aside0.mk (hb); have n5_ := Aside0.mk (ho); clear BK369; clear BK370; clear BK371; clear HO377; clear HB; clear HO380; have BK369 := n0_; have BK370 := n1_; have BK371 := n2_; have HO377 := n3_; have HB := n4_; have HO383 := n5_; clear n0_ n1_ n2_ n3_ n4_ n5_; clear ho hb hg hat; obtain ⟨Ao22, co22, eo22⟩ := Kd.R_slice HO383.out; subst eo22; have hcz23_0 : w21.cell? ⟨gb371, 0, none⟩ = some (.slice Ao16 y375.length co16) := (blk_cell BK371.out 0).trans rfl; have hcz23_1 : w21.cell? ⟨gb371, 1, none⟩ = some (.slice A0_1 l0_1.length c0_1) := (blk_cell BK371.out 1).trans rfl; have hcz23_2 : w21.cell? ⟨gb371, 2, none⟩ = some (.int .i64 a0_2) := (blk_cell BK371.out 2).trans rfl; have hcz23_3 : w21.cell? ⟨gb371, 3, none⟩ = some (.int .i64 a0_3) := (blk_cell BK371.out 3).trans rfl; have hfz23_0 := blk_frozen BK371.out 0; have hfz23_1 := blk_frozen BK371.out 1; have hfz23_2 := blk_frozen BK371.out 2; have hfz23_3 := blk_frozen BK371.out 3; have hcz24_0 : w21.cell? ⟨gb370, 0, none⟩ = some (.slice none 0 0) := (blk_cell BK370.out 0).trans rfl; have hcz24_1 : w21.cell? ⟨gb370, 1, none⟩ = some (.slice none 0 0) := (blk_cell BK370.out 1).trans rfl; have hcz24_2 : w21.cell? ⟨gb370, 2, none⟩ = some (.int .i64 0) := (blk_cell BK370.out 2).trans rfl; have hcz24_3 : w21.cell? ⟨gb370, 3, none⟩ = some (.int .i64 0) := (blk_cell BK370.out 3).trans rfl; have hfz24_0 := blk_frozen BK370.out 0; have hfz24_1 := blk_frozen BK370.out 1; have hfz24_2 := blk_frozen BK370.out 2; have hfz24_3 := blk_frozen BK370.out 3))
      refine bodyPost_ret (results_cell_row rfl _ _ gb370 30 #[.slice Ao16 y375.length co16, .slice Ao22 y381.length co22, .int .i64 a0_2, .int .i64 a0_3] (0, 0) _ rfl (by (with_reducible repeat (first | refine blk_drewN ?_ _ | refine blk_drew ?_ | refine blk_alloc ?_ _)); refine blk_put (cs := #[.slice Ao16 y375.length co16, .slice Ao22 y381.length co22, .int .i64 a0_2, .int .i64 0]) ?_ 3 _ rfl; (with_reducible repeat (first | refine blk_drewN ?_ _ | refine blk_drew ?_ | refine blk_alloc ?_ _)); refine blk_put (cs := #[.slice Ao16 y375.length co16, .slice Ao22 y381.length co22, .int .i64 0, .int .i64 0]) ?_ 2 _ rfl; (with_reducible repeat (first | refine blk_drewN ?_ _ | refine blk_drew ?_ | refine blk_alloc ?_ _)); refine blk_put (cs := #[.slice Ao16 y375.length co16, .slice none 0 0, .int .i64 0, .int .i64 0]) ?_ 1 _ rfl; (with_reducible repeat (first | refine blk_drewN ?_ _ | refine blk_drew ?_ | refine blk_alloc ?_ _)); refine blk_put (cs := #[.slice none 0 0, .slice none 0 0, .int .i64 0, .int .i64 0]) ?_ 0 _ rfl; (with_reducible repeat (first | refine blk_drewN ?_ _ | refine blk_drew ?_ | refine blk_alloc ?_ _)); refine blk_far ?_ NB370_371.out _; (with_reducible repeat (first | refine blk_drewN ?_ _ | refine blk_drew ?_ | refine blk_alloc ?_ _)); exact BK370.out) Try.underlying30 rfl (by kernel_rfl)) rfl ?_
      exact ⟨_, _, by first | rfl | (simp [errW_none, errW_some] <;> rfl) | (simp [*, errW_none, errW_some] <;> rfl), by (with_reducible repeat (first | apply Kd.R_alloc | apply Kd.R_drewN | apply Kd.R_drew)); exact Kd.R_mono (Kd.R_far (p := ⟨gb370, 3, none⟩) (Kd.R_far (p := ⟨gb370, 2, none⟩) (Kd.R_far (p := ⟨gb370, 1, none⟩) (Kd.R_far (p := ⟨gb370, 0, none⟩) (Kd.R_far (p := ⟨gb371, 1, none⟩) (Kd.R_types (Kd.R_types HO377.out BK371.out (by decide)) BK370.out (by decide)) (fun _ hk => hk.1.2) (.slice Ao22 y381.length co22)) (fun _ hk => hk.2) (.slice Ao16 y375.length co16)) (fun _ hk => hk.2) (.slice Ao22 y381.length co22)) (fun _ hk => hk.2) (.int .i64 a0_2)) (fun _ hk => hk.2) (.int .i64 a0_3)) (fun _ hk => trivial), by (with_reducible repeat (first | apply Kd.R_alloc | apply Kd.R_drewN | apply Kd.R_drew)); exact Kd.R_mono (Kd.R_far (p := ⟨gb370, 3, none⟩) (Kd.R_far (p := ⟨gb370, 2, none⟩) (Kd.R_far (p := ⟨gb370, 1, none⟩) (Kd.R_far (p := ⟨gb370, 0, none⟩) (Kd.R_far (p := ⟨gb371, 1, none⟩) (Kd.R_types (Kd.R_types HO383.out BK371.out (by decide)) BK370.out (by decide)) (fun _ hk => hk.1.2) (.slice Ao22 y381.length co22)) (fun _ hk => hk.2) (.slice Ao16 y375.length co16)) (fun _ hk => hk.2) (.slice Ao22 y381.length co22)) (fun _ hk => hk.2) (.int .i64 a0_2)) (fun _ hk => hk.2) (.int .i64 a0_3)) (fun _ hk => trivial), by repeat (first | (with_reducible first | exact HB.out | apply below_alloc | apply pw_below_drewN | apply below_drew1 | refine below_set ?_ GE369.out | refine below_set ?_ GE370.out | refine below_set ?_ GE371.out) | exact HB.out)⟩
    · rw [if_neg c3] at H
      exact absurd H (by simp)
  · rw [if_neg c2] at H
    exact absurd H (by simp)

end Go.Proofs.Ytldjfonpegffiaa.Q

namespace Go.Proofs.Ytldjfonpegffiaa.Q
open Go.RowKit Go.Proofs.YtldjfonpegffiaaW.PrintWords Go.Proofs.YtldjfonpegffiaaW.PrintLast Go.Proofs.YtldjfonpegffiaaW.PrintMore
attribute [local go_sem] max2_int min2_int max_two min_two max_three min_three max_four min_four   -- for this text's walks alone
set_option linter.unusedVariables false
set_option linter.unusedSimpArgs false

/-! ### spec_l7Bit: function 85 -/
def spec_l7Bit.l0 : Nat → Int → Int → Option (Bool)
  | 0, _, _ => none
  | k + 1, x0, x5 => if x5 > 0 then (spec_l7Bit.l0 k (wrap64 (Int.tdiv x0 2)) (wrap64 (x5 - 1))) else (some ((Int.tmod x0 2) == 1))
def spec_l7Bit.f (k : Nat) (a0 : Int) (a1 : Int) : Option (Bool) := spec_l7Bit.l0 k a0 (Int.tmod a1 60)
theorem spec_l7Bit.mono_l : ∀ k, (∀ y0 y1, LeO (spec_l7Bit.l0 k y0 y1) (spec_l7Bit.l0 (k + 1) y0 y1))
  | 0 => fun _ _ r h => by simp [spec_l7Bit.l0] at h
  | k + 1 => by
    have ih0 := spec_l7Bit.mono_l k
    · intro y0 y1
      unfold spec_l7Bit.l0
      repeat' first
      | (with_reducible exact ih0 _ _)
      | (with_reducible exact LeO.refl _)
      | (with_reducible exact LeO.none _)
      | (with_reducible refine LeO.ite ?_ ?_)
      | (with_reducible refine LeO.bind ?_ (fun _ => ?_))
      | exact ih0 _ _
      | exact LeO.none _
      | refine LeO.ite ?_ ?_
      | refine LeO.bind ?_ (fun _ => ?_)
theorem spec_l7Bit.mono : ∀ a0 a1 k, LeO (spec_l7Bit.f k a0 a1) (spec_l7Bit.f (k + 1) a0 a1) := by
  intro a0 a1 k
  have ih0 := spec_l7Bit.mono_l k
  unfold spec_l7Bit.f
  repeat' first
      | (with_reducible exact ih0 _ _)
      | (with_reducible exact LeO.refl _)
      | (with_reducible exact LeO.none _)
      | (with_reducible refine LeO.ite ?_ ?_)
      | (with_reducible refine LeO.bind ?_ (fun _ => ?_))
      | exact ih0 _ _
      | exact LeO.none _
      | refine LeO.ite ?_ ?_
      | refine LeO.bind ?_ (fun _ => ?_)
set_option maxHeartbeats 8000000 in
set_option maxRecDepth 100000 in
theorem spec_l7Bit.calls (k : Nat) (a0 : Int) (a1 : Int) (r : Bool) (w : World) (h : spec_l7Bit.f k a0 a1 = some r) :
    Calls Try.prog 85 #[.int .i64 a0, .int .i64 a1] w fun e w' => e = .returned (.bool r) ∧ Drawn0 w w' := by
  have H : (spec_l7Bit.l0 k a0 (Int.tmod a1 60)) = some r := h
  clear h
  have H' := Aside0.mk H
  clear H
  go_enter Try.func85, Try.ntmps85
  go_wp2
  go_loopg [0, 5] k (fun kq v0 v5 w' => ∃ (x0_1 : Int) (x5_1 : Int), v0 = .int .i64 x0_1 ∧ v5 = .int .i64 x5_1 ∧ Aside0 (spec_l7Bit.l0 kq x0_1 x5_1 = some r) ∧ Aside0 (kq ≤ k) ∧ Drawn0 w w')
  case atStart => exact ⟨(a0), (Int.tmod a1 60), (by first | rfl | (simp; done) | (simp [*]; done)), (by first | rfl | (simp; done) | (simp [*]; done)), H', ⟨Nat.le_refl _⟩, by repeat (first | exact Drawn0.refl _ | apply Drawn0.step)⟩
  case round =>
    clear H'
    try clear p2
    obtain ⟨x0_1, x5_1, rfl, rfl, HA, HK1, ⟨m1, rfl⟩⟩ := hrel
    cases gk with
    | zero => exact absurd HA.out (by simp [spec_l7Bit.l0])
    | succ k1 =>
      have H := HA.out
      clear HA
      simp only [spec_l7Bit.l0] at H
      by_cases c3 : x5_1 > 0
      · rw [if_pos c3] at H
        have c3b0 : decide (0 < x5_1) = true := decide_eq_true c3
        clear c3
        have H' := Aside0.mk H
        clear H
        go_wp2
        go_roundg k1
        case measure => have := HK1.out; omega
        case rel => exact ⟨(wrap64 (Int.tdiv x0_1 2)), (wrap64 (x5_1 - 1)), (by first | rfl | (simp; done) | (simp [*]; done)), (by first | rfl | (simp; done) | (simp [*]; done)), H', ⟨by have := HK1.out; omega⟩, by repeat (first | exact Drawn0.refl _ | apply Drawn0.step)⟩
      · rw [if_neg c3] at H
        have c3b0 : decide (0 < x5_1) = false := decide_eq_false c3
        clear c3
        obtain rfl := Option.some.inj H
        go_wp2
        go_ret
        exact ⟨by first | rfl | (simp; done) | (simp [*]; done), by repeat (first | exact Drawn0.refl _ | apply Drawn0.step)⟩

end Go.Proofs.Ytldjfonpegffiaa.Q

namespace Go.Proofs.Ytldjfonpegffiaa.Q
open Go.RowKit Go.Proofs.Ytldjfonpegffiaa.Q Go.Proofs.YtldjfonpegffiaaW.PrintWords Go.Proofs.YtldjfonpegffiaaW.PrintLast Go.Proofs.YtldjfonpegffiaaW.PrintMore
set_option linter.unusedVariables false
set_option linter.unusedSimpArgs false
theorem ba_ext {s t : ByteArray} (h : s.data.toList = t.data.toList) : s = t := by
  cases s; cases t; congr; exact Array.ext' h
theorem ba_size (s : ByteArray) : s.size = s.data.toList.length := by rw [Array.length_toList]; rfl
theorem ba_append_size (s t : ByteArray) : (s ++ t).size = s.size + t.size := by simp
end Go.Proofs.Ytldjfonpegffiaa.Q

namespace Go.Proofs.Ytldjfonpegffiaa.Q
open Go.RowKit Go.Proofs.Ytldjfonpegffiaa.Q Go.Proofs.YtldjfonpegffiaaW.PrintWords Go.Proofs.YtldjfonpegffiaaW.PrintLast Go.Proofs.YtldjfonpegffiaaW.PrintMore
set_option linter.unusedVariables false
set_option linter.unusedSimpArgs false
/-- How many bytes of a text are written. -/
def tornAt (t : ByteArray) (b : Int) : Int := if (if b > (t.size : Int) - 1 then (t.size : Int) - 1 else b) < 0 then 0 else (if b > (t.size : Int) - 1 then (t.size : Int) - 1 else b)
def spec_l7Torn.f (a0 a1 : ByteArray) (a2 : Int) : Option ByteArray :=
  if a0.size + a1.size ≤ 9223372036854775807 then some (if tornAt a0 a2 ≥ (a1.size : Int) then a0.extract 0 (tornAt a0 a2).toNat else a0.extract 0 (tornAt a0 a2).toNat ++ a1.extract (tornAt a0 a2).toNat a1.size) else none
theorem tornAt_range (t : ByteArray) (b : Int) : 0 ≤ tornAt t b ∧ tornAt t b ≤ (t.size : Int) := by
  unfold tornAt
  split <;> split <;> omega
set_option maxHeartbeats 4000000 in
set_option maxRecDepth 100000 in
theorem spec_l7Torn.calls (a0 a1 : ByteArray) (a2 : Int) (r : ByteArray) (w : World) (h : spec_l7Torn.f a0 a1 a2 = some r) :
    Calls Try.prog 86 #[.string a0, .string a1, .int .i64 a2] w fun e w' => e = .returned (.string r) ∧ Below w.heap.size w w' := by
  unfold spec_l7Torn.f at h
  split at h
  · rename_i hbig
    have HR := Aside0.mk (Option.some.inj h)
    have HBIG := Aside0.mk hbig
    clear h
    obtain ⟨m, hm⟩ : ∃ m : Int, (a0.size : Int) - 1 = m := ⟨_, rfl⟩
    have hm64 : wrap64 ((a0.size : Int) - 1) = m := by rw [hm]; unfold wrap64; omega
    have hmw : IntKind.i64.wrap ((a0.size : Int) - 1) = m := by rw [hm]; exact IntWalk.i64_in _ (by omega)
    have HM := Aside0.mk hm
    obtain ⟨b, hb⟩ : ∃ b : Int, tornAt a0 a2 = b := ⟨_, rfl⟩
    have HB := Aside0.mk hb
    have hrg := tornAt_range a0 a2
    rw [hb] at hrg
    have p0 : (0 ≤ b) = True := eq_true hrg.1
    have p1 : (b ≤ (a0.size : Int)) = True := eq_true hrg.2
    unfold tornAt at hb
    rw [hm] at hb
    clear hm hbig hrg
    by_cases c1 : a2 > m
    · have c1b : decide (m < a2) = true := decide_eq_true c1
      rw [if_pos c1] at hb
      clear c1
      by_cases c2 : m < 0
      · have c2b : decide (m < 0) = true := decide_eq_true c2
        rw [if_pos c2] at hb
        clear c2
        subst hb
        by_cases c3 : (0 : Int) ≥ (a1.size : Int)
        · have c3b : decide ((a1.size : Int) ≤ 0) = true := decide_eq_true c3
          have c3n : decide (a1.size ≤ 0) = true := decide_eq_true (by omega)
          have c3e : decide (a1 = ByteArray.empty) = true := decide_eq_true (ba_ext (List.eq_nil_of_length_eq_zero (by rw [← ba_size]; omega)))
          have e00 : a0.extract 0 0 = ByteArray.empty := ba_ext (List.eq_nil_of_length_eq_zero (by rw [← ba_size]; simp))
          have hr : r = ByteArray.empty := by rw [← HR.out, HB.out, if_pos c3]; exact e00
          subst hr
          clear c3 HR
          go_enter Try.func86, Try.ntmps86
          go_wp2
          go_ret
          exact ⟨rfl, Below.refl _ _⟩
        · have c3b : decide ((a1.size : Int) ≤ 0) = false := decide_eq_false c3
          have c3n : decide (a1.size ≤ 0) = false := decide_eq_false (by omega)
          have c3e : decide (a1 = ByteArray.empty) = false := decide_eq_false (fun h_ => c3 (by rw [h_]; decide))
          have e00 : a0.extract 0 0 = ByteArray.empty := ba_ext (List.eq_nil_of_length_eq_zero (by rw [← ba_size]; simp))
          have p2 : ((0 : Int) ≤ (a1.size : Int)) = True := eq_true (by omega)
          have hs5 : (9223372036854775807 < a1.size) = False := eq_false (by have := HBIG.out; omega)
          have hr : r = a1 := by
            rw [← HR.out, HB.out, if_neg c3]
            show a0.extract 0 0 ++ a1.extract 0 a1.size = a1
            rw [e00]
            simp
          have hs : (9223372036854775807 < (a0.extract 0 (0 : Int).toNat).size + (a1.extract (0 : Int).toNat a1.size).size) = False := eq_false (by simp only [ByteArray.size_extract]; have := HBIG.out; omega)
          have hs2 : (9223372036854775807 < (0 : Int).toNat + (a1.size - (0 : Int).toNat)) = False := eq_false (by have h1 := of_eq_true p1; have h2 := of_eq_true p0; have := HBIG.out; omega)
          subst hr
          clear c3 HR
          go_enter Try.func86, Try.ntmps86
          go_wp2
          go_quiet (fail)
          go_wp2
          go_ret
          exact ⟨rfl, pw_below_drewN (Below.refl _ _) _⟩
      · have c2b : decide (m < 0) = false := decide_eq_false c2
        rw [if_neg c2] at hb
        clear c2
        subst hb
        by_cases c3 : (m : Int) ≥ (a1.size : Int)
        · have c3b : decide ((a1.size : Int) ≤ m) = true := decide_eq_true c3
          have hr : r = a0.extract 0 (m : Int).toNat := by rw [← HR.out, HB.out, if_pos c3]
          subst hr
          clear c3 HR
          go_enter Try.func86, Try.ntmps86
          go_wp2
          go_ret
          exact ⟨rfl, Below.refl _ _⟩
        · have c3b : decide ((a1.size : Int) ≤ m) = false := decide_eq_false c3
          have p2 : ((m : Int) ≤ (a1.size : Int)) = True := eq_true (by omega)
          have hr : r = a0.extract 0 (m : Int).toNat ++ a1.extract (m : Int).toNat a1.size := by rw [← HR.out, HB.out, if_neg c3]
          have hs : (9223372036854775807 < (a0.extract 0 (m : Int).toNat).size + (a1.extract (m : Int).toNat a1.size).size) = False := eq_false (by simp only [ByteArray.size_extract]; have := HBIG.out; omega)
          have hs5 : (9223372036854775807 < a1.size) = False := eq_false (by have := HBIG.out; omega)
          have hs4 : (9223372036854775807 < min (m : Int).toNat a0.size + (a1.size - (m : Int).toNat)) = False := eq_false (by have h1 := of_eq_true p1; have h2 := of_eq_true p0; have := HBIG.out; omega)
          have hs2 : (9223372036854775807 < (m : Int).toNat + (a1.size - (m : Int).toNat)) = False := eq_false (by have h1 := of_eq_true p1; have h2 := of_eq_true p0; have := HBIG.out; omega)
          subst hr
          clear c3 HR
          go_enter Try.func86, Try.ntmps86
          go_wp2
          go_quiet (fail)
          go_wp2
          go_ret
          exact ⟨rfl, pw_below_drewN (Below.refl _ _) _⟩
    · have c1b : decide (m < a2) = false := decide_eq_false c1
      rw [if_neg c1] at hb
      clear c1
      by_cases c2 : a2 < 0
      · have c2b : decide (a2 < 0) = true := decide_eq_true c2
        rw [if_pos c2] at hb
        clear c2
        subst hb
        by_cases c3 : (0 : Int) ≥ (a1.size : Int)
        · have c3b : decide ((a1.size : Int) ≤ 0) = true := decide_eq_true c3
          have c3n : decide (a1.size ≤ 0) = true := decide_eq_true (by omega)
          have c3e : decide (a1 = ByteArray.empty) = true := decide_eq_true (ba_ext (List.eq_nil_of_length_eq_zero (by rw [← ba_size]; omega)))
          have e00 : a0.extract 0 0 = ByteArray.empty := ba_ext (List.eq_nil_of_length_eq_zero (by rw [← ba_size]; simp))
          have hr : r = ByteArray.empty := by rw [← HR.out, HB.out, if_pos c3]; exact e00
          subst hr
          clear c3 HR
          go_enter Try.func86, Try.ntmps86
          go_wp2
          go_ret
          exact ⟨rfl, Below.refl _ _⟩
        · have c3b : decide ((a1.size : Int) ≤ 0) = false := decide_eq_false c3
          have c3n : decide (a1.size ≤ 0) = false := decide_eq_false (by omega)
          have c3e : decide (a1 = ByteArray.empty) = false := decide_eq_false (fun h_ => c3 (by rw [h_]; decide))
          have e00 : a0.extract 0 0 = ByteArray.empty := ba_ext (List.eq_nil_of_length_eq_zero (by rw [← ba_size]; simp))
          have p2 : ((0 : Int) ≤ (a1.size : Int)) = True := eq_true (by omega)
          have hs5 : (9223372036854775807 < a1.size) = False := eq_false (by have := HBIG.out; omega)
          have hr : r = a1 := by
            rw [← HR.out, HB.out, if_neg c3]
            show a0.extract 0 0 ++ a1.extract 0 a1.size = a1
            rw [e00]
            simp
          have hs : (9223372036854775807 < (a0.extract 0 (0 : Int).toNat).size + (a1.extract (0 : Int).toNat a1.size).size) = False := eq_false (by simp only [ByteArray.size_extract]; have := HBIG.out; omega)
          have hs2 : (9223372036854775807 < (0 : Int).toNat + (a1.size - (0 : Int).toNat)) = False := eq_false (by have h1 := of_eq_true p1; have h2 := of_eq_true p0; have := HBIG.out; omega)
          subst hr
          clear c3 HR
          go_enter Try.func86, Try.ntmps86
          go_wp2
          go_quiet (fail)
          go_wp2
          go_ret
          exact ⟨rfl, pw_below_drewN (Below.refl _ _) _⟩
      · have c2b : decide (a2 < 0) = false := decide_eq_false c2
        rw [if_neg c2] at hb
        clear c2
        subst hb
        by_cases c3 : (a2 : Int) ≥ (a1.size : Int)
        · have c3b : decide ((a1.size : Int) ≤ a2) = true := decide_eq_true c3
          have hr : r = a0.extract 0 (a2 : Int).toNat := by rw [← HR.out, HB.out, if_pos c3]
          subst hr
          clear c3 HR
          go_enter Try.func86, Try.ntmps86
          go_wp2
          go_ret
          exact ⟨rfl, Below.refl _ _⟩
        · have c3b : decide ((a1.size : Int) ≤ a2) = false := decide_eq_false c3
          have p2 : ((a2 : Int) ≤ (a1.size : Int)) = True := eq_true (by omega)
          have hr : r = a0.extract 0 (a2 : Int).toNat ++ a1.extract (a2 : Int).toNat a1.size := by rw [← HR.out, HB.out, if_neg c3]
          have hs : (9223372036854775807 < (a0.extract 0 (a2 : Int).toNat).size + (a1.extract (a2 : Int).toNat a1.size).size) = False := eq_false (by simp only [ByteArray.size_extract]; have := HBIG.out; omega)
          have hs5 : (9223372036854775807 < a1.size) = False := eq_false (by have := HBIG.out; omega)
          have hs4 : (9223372036854775807 < min (a2 : Int).toNat a0.size + (a1.size - (a2 : Int).toNat)) = False := eq_false (by have h1 := of_eq_true p1; have h2 := of_eq_true p0; have := HBIG.out; omega)
          have hs2 : (9223372036854775807 < (a2 : Int).toNat + (a1.size - (a2 : Int).toNat)) = False := eq_false (by have h1 := of_eq_true p1; have h2 := of_eq_true p0; have := HBIG.out; omega)
          subst hr
          clear c3 HR
          go_enter Try.func86, Try.ntmps86
          go_wp2
          go_quiet (fail)
          go_wp2
          go_ret
          exact ⟨rfl, pw_below_drewN (Below.refl _ _) _⟩
  · cases h
end Go.Proofs.Ytldjfonpegffiaa.Q
