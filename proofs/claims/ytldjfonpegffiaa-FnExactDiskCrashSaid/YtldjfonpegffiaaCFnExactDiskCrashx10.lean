/- A part of the proof that the law FnExactDiskCrash answers true for every input: contracts of functions that it reaches, or its plain law. -/
import Derived.Test.YtldjfonpegffiaaProg
import Derived.Below
import Derived.Deep.Draws
import Derived.Deep.AppendLies
import Derived.Maps.AppendAt
import Derived.OwnWalk
import Derived.Laws.BytesArg
import Derived.Laws.MakeOwn
import Derived.Laws.OwnMore
import Derived.Deep.OwnRows
import Derived.Tactics
import Derived.Lib.ConvBytes
import Derived.Laws.Slices
import Derived.WalkKit
import Derived.KernelRfl
import Derived.RowKit3
import Derived.Deep.LoopGhost
import Derived.Deep.QuietTactic
import Derived.BigQuiet
import Derived.WideLaws
import Derived.Deep.DeepCutAuto
import Derived.Deep.CutBlock
import Derived.Deep.RegionHeld3
import Derived.Laws.Rows
import Derived.Lib.AppendStr
import Derived.ArgAppend
import Derived.Laws.IdiomCopy
import Derived.OrdersHeld
import Derived.Laws.BitsLemmas
import Derived.RowKit
import Derived.Test.YtldjfonpegffiaaCFnExactDiskCrashx0
import Derived.Test.YtldjfonpegffiaaCFnExactDiskCrashx1
import Derived.Test.YtldjfonpegffiaaCFnExactDiskCrashx2
import Derived.Test.YtldjfonpegffiaaCFnExactDiskCrashx3
import Derived.Test.YtldjfonpegffiaaCFnExactDiskCrashx9
namespace Go.Proofs.Ytldjfonpegffiaa.Q
open Go.RowKit Go.Proofs.YtldjfonpegffiaaW.PrintWords Go.Proofs.YtldjfonpegffiaaW.PrintLast Go.Proofs.YtldjfonpegffiaaW.PrintMore
attribute [local go_sem] max2_int min2_int max_two min_two max_three min_three max_four min_four   -- for this text's walks alone
set_option linter.unusedVariables false
set_option linter.unusedSimpArgs false

/-! ### impl_DiskCrash: function 35 -/
mutual
def impl_DiskCrash.j0 : Nat → Int → Int → Int → Bool → List ByteArray → List (S54) → Int → Int → Option (List ByteArray × (List (S54)) × Int × Int)
  | 0, _, _, _, _, _, _, _, _ => none
  | k + 1, x1, x2, x3, x18, x584000, x584001, x584002, x584003 => if x18 = true then (some (([] : List ByteArray), ([] : List (S54)), 0, 0)) else ((impl_clone_string.f x584000).bind fun t586 => (impl_DiskCrash.l0 k x1 x2 x3 x584001 (x584001.length : Int) 0 t586 (-1) (-1)))
def impl_DiskCrash.l0 : Nat → Int → Int → Int → List (S54) → Int → Int → List ByteArray → Int → Int → Option (List ByteArray × (List (S54)) × Int × Int)
  | 0, _, _, _, _, _, _, _, _, _ => none
  | k + 1, x1, x2, x3, x25, x26, x27, x590000, x590002, x590003 => if x27 < x26 then (if 0 ≤ x27 then (if x27 < (x25.length : Int) then (if 0 ≤ (Int.tmod x27 60) then (if (Go.bits .and .i64 (shr .i64 x1 (Int.tmod x27 60)) 1) = 1 then (if 0 ≤ ((rd_T54 x25 x27).f0) then (if ((rd_T54 x25 x27).f0) < (x590000.length : Int) then (impl_DiskCrash.l0 k x1 x2 x3 x25 x26 (wrap64 (x27 + 1)) (x590000.set (((rd_T54 x25 x27).f0) : Int).toNat ((rd_T54 x25 x27).f1)) x590002 x590003) else (none)) else (none)) else (if x27 = x2 then (if 0 ≤ ((rd_T54 x25 x27).f0) then (if ((rd_T54 x25 x27).f0) < (x590000.length : Int) then ((impl_torn.f (rdOf ByteArray.empty x590000 ((rd_T54 x25 x27).f0)) ((rd_T54 x25 x27).f1) x3).bind fun t594 => (impl_DiskCrash.l0 k x1 x2 x3 x25 x26 (wrap64 (x27 + 1)) (x590000.set (((rd_T54 x25 x27).f0) : Int).toNat t594) x590002 x590003)) else (none)) else (none)) else (impl_DiskCrash.l0 k x1 x2 x3 x25 x26 (wrap64 (x27 + 1)) x590000 x590002 x590003))) else (none)) else (none)) else (none)) else (some (x590000, ([] : List (S54)), x590002, x590003))
end
def impl_DiskCrash.f (k : Nat) (l0_0 : List ByteArray) (l0_1 : List (S54)) (a0_2 : Int) (a0_3 : Int) (a1 : Int) (a2 : Int) (a3 : Int) : Option (List ByteArray × (List (S54)) × Int × Int) := (impl_DiskOk.f l0_0 l0_1 a0_2 a0_3).bind fun t585 => (if t585 = true then (impl_DiskCrash.j0 k a1 a2 a3 (decide (a1 < 0)) l0_0 l0_1 a0_2 a0_3) else (impl_DiskCrash.j0 k a1 a2 a3 true l0_0 l0_1 a0_2 a0_3))
theorem impl_DiskCrash.mono_l : ∀ k, (∀ y0 y1 y2 y3 y4 y5 y6 y7, LeO (impl_DiskCrash.j0 k y0 y1 y2 y3 y4 y5 y6 y7) (impl_DiskCrash.j0 (k + 1) y0 y1 y2 y3 y4 y5 y6 y7)) ∧ (∀ y0 y1 y2 y3 y4 y5 y6 y7 y8, LeO (impl_DiskCrash.l0 k y0 y1 y2 y3 y4 y5 y6 y7 y8) (impl_DiskCrash.l0 (k + 1) y0 y1 y2 y3 y4 y5 y6 y7 y8))
  | 0 => ⟨fun _ _ _ _ _ _ _ _ r h => by simp [impl_DiskCrash.j0] at h, fun _ _ _ _ _ _ _ _ _ r h => by simp [impl_DiskCrash.l0] at h⟩
  | k + 1 => by
    obtain ⟨ih0, ih1⟩ := impl_DiskCrash.mono_l k
    refine ⟨?_, ?_⟩
    · intro y0 y1 y2 y3 y4 y5 y6 y7
      unfold impl_DiskCrash.j0
      repeat' first
      | (with_reducible exact ih0 _ _ _ _ _ _ _ _)
      | (with_reducible exact ih1 _ _ _ _ _ _ _ _ _)
      | (with_reducible exact LeO.refl _)
      | (with_reducible exact LeO.none _)
      | (with_reducible refine LeO.ite ?_ ?_)
      | (with_reducible refine LeO.bind ?_ (fun _ => ?_))
      | exact ih0 _ _ _ _ _ _ _ _
      | exact ih1 _ _ _ _ _ _ _ _ _
      | exact LeO.none _
      | refine LeO.ite ?_ ?_
      | refine LeO.bind ?_ (fun _ => ?_)
    · intro y0 y1 y2 y3 y4 y5 y6 y7 y8
      unfold impl_DiskCrash.l0
      repeat' first
      | (with_reducible exact ih0 _ _ _ _ _ _ _ _)
      | (with_reducible exact ih1 _ _ _ _ _ _ _ _ _)
      | (with_reducible exact LeO.refl _)
      | (with_reducible exact LeO.none _)
      | (with_reducible refine LeO.ite ?_ ?_)
      | (with_reducible refine LeO.bind ?_ (fun _ => ?_))
      | exact ih0 _ _ _ _ _ _ _ _
      | exact ih1 _ _ _ _ _ _ _ _ _
      | exact LeO.none _
      | refine LeO.ite ?_ ?_
      | refine LeO.bind ?_ (fun _ => ?_)
theorem impl_DiskCrash.mono : ∀ a0 a1 a2 a3 a4 a5 a6 k, LeO (impl_DiskCrash.f k a0 a1 a2 a3 a4 a5 a6) (impl_DiskCrash.f (k + 1) a0 a1 a2 a3 a4 a5 a6) := by
  intro a0 a1 a2 a3 a4 a5 a6 k
  obtain ⟨ih0, ih1⟩ := impl_DiskCrash.mono_l k
  unfold impl_DiskCrash.f
  repeat' first
      | (with_reducible exact ih0 _ _ _ _ _ _ _ _)
      | (with_reducible exact ih1 _ _ _ _ _ _ _ _ _)
      | (with_reducible exact LeO.refl _)
      | (with_reducible exact LeO.none _)
      | (with_reducible refine LeO.ite ?_ ?_)
      | (with_reducible refine LeO.bind ?_ (fun _ => ?_))
      | exact ih0 _ _ _ _ _ _ _ _
      | exact ih1 _ _ _ _ _ _ _ _ _
      | exact LeO.none _
      | refine LeO.ite ?_ ?_
      | refine LeO.bind ?_ (fun _ => ?_)
def impl_DiskCrash.T10 : Bool × List (List Nat × List Nat) := (true, [([], []), ([0], [0]), ([], []), ([2], [2]), ([], []), ([4], [4]), ([], []), ([6], [6]), ([5, 7], [5, 7]), ([8], [8]), ([], []), ([10], [10]), ([], []), ([9, 11, 12], [9, 11, 12]), ([1, 3, 0, 1, 2, 3, 4, 5, 6, 7, 8, 9, 10, 11, 12, 13], [1, 3]), ([14, 13, 13, 0, 1, 2, 3, 4, 5, 6, 7, 8, 9, 10, 11, 12, 13], [13, 14])])
def impl_DiskCrash.B10 : List Nat := [0, 1, 0, 4, 0, 16, 0, 64, 240, 496, 0, 1024, 0, 8176, 16383, 32767]
theorem impl_DiskCrash.tab10 : rtab .any (opsOf Try.f35 10) = impl_DiskCrash.T10 := by kernel_rfl
theorem impl_DiskCrash.bits10 : waitsOk impl_DiskCrash.T10.2 impl_DiskCrash.B10 = true := by kernel_rfl
set_option maxHeartbeats 8000000 in
set_option maxRecDepth 100000 in
theorem impl_DiskCrash.calls (k : Nat) (A0_0 : Option Addr) (c0_0 : Nat) (l0_0 : List ByteArray) (A0_1 : Option Addr) (c0_1 : Nat) (l0_1 : List (S54)) (a0_2 : Int) (a0_3 : Int) (a1 : Int) (a2 : Int) (a3 : Int) (r1 : List ByteArray) (r2 : List (S54)) (r3 : Int) (r4 : Int) (w : World) (hr0_0 : Kd.C Kd.string w A0_0 l0_0.length l0_0) (hc0_0 : l0_0.length ≤ c0_0) (hr0_1 : Kd.C k54 w A0_1 l0_1.length l0_1) (hc0_1 : l0_1.length ≤ c0_1) (h : impl_DiskCrash.f k l0_0 l0_1 a0_2 a0_3 a1 a2 a3 = some (r1, r2, r3, r4)) :
    Calls Try.prog 35 #[.agg #[.slice A0_0 l0_0.length c0_0, .slice A0_1 l0_1.length c0_1, .int .i64 a0_2, .int .i64 a0_3], .int .i64 a1, .int .i64 a2, .int .i64 a3] w fun e w' => ∃ v0_ v1_ : Value, e = .returned (.agg #[v0_, v1_, .int .i64 r3, .int .i64 r4]) ∧ Kd.Q Kd.string 9 w' w.heap.size (fun _ => True) v0_ r1 ∧ Kd.R k54 54 w' w.heap.size (fun _ => True) v1_ r2 ∧ Below w.heap.size w w' := by
  have hu30 := Try.underlying30
  have hu54 := Try.underlying54
  have HR0_0 := Aside0.mk hr0_0
  have HC0_0 := Aside0.mk hc0_0
  clear hr0_0 hc0_0
  have HR0_1 := Aside0.mk hr0_1
  have HC0_1 := Aside0.mk hc0_1
  clear hr0_1 hc0_1
  have HB := Aside0.mk (Below.refl w.heap.size w)
  have H : ((impl_DiskOk.f l0_0 l0_1 a0_2 a0_3).bind fun t585 => (if t585 = true then (impl_DiskCrash.j0 k a1 a2 a3 (decide (a1 < 0)) l0_0 l0_1 a0_2 a0_3) else (impl_DiskCrash.j0 k a1 a2 a3 true l0_0 l0_1 a0_2 a0_3))) = some (r1, r2, r3, r4) := h
  clear h
  have HC5 := Aside0.mk H
  clear H
  go_enter Try.func35, Try.ntmps35
  go_upto_region 1 with (first | ((with_reducible refine gate_dst (N := 4) rfl ?_); refine box_event ?hg (N := 4) ?hd (cs := #[.slice A0_0 l0_0.length c0_0, .slice A0_1 l0_1.length c0_1, .int .i64 a0_2, .int .i64 a0_3]) (t := 30) ?hr ?_; (case hd => rfl); (case hg => rfl); (case hr => first | (go_simp; done) | (go_simp; rfl)); intro gb583 hg w6 hbox hb; have n0_ := Aside0.mk (below_step (by repeat (first | (with_reducible first | exact HB.out | apply below_alloc | apply pw_below_drewN | apply below_drew1) | exact HB.out)) hb); have n1_ := Aside0.mk (hbox); have n2_ := Aside0.mk ((by rw [hg]; exact (below_size (by repeat (first | (with_reducible first | exact HB.out | apply below_alloc | apply pw_below_drewN | apply below_drew1) | exact HB.out))) : w.heap.size ≤ gb583)); have n3_ := Aside0.mk ((by rw [hg]; exact (below_size (by repeat (first | (with_reducible first | exact HB.out | apply below_alloc | apply pw_below_drewN | apply below_drew1) | exact HB.out))) : w.heap.size ≤ gb583)); clear HB; have HB := n0_; have BK583 := n1_; have GW583 := n2_; have GE583 := n3_; clear n0_ n1_ n2_ n3_; clear hb hbox hg) | ((with_reducible refine gate_dst (N := 8) rfl ?_); refine box_event ?hg (N := 8) ?hd (cs := #[.slice none 0 0, .slice none 0 0, .int .i64 0, .int .i64 0]) (t := 30) ?hr ?_; (case hd => rfl); (case hg => rfl); (case hr => first | (go_simp; done) | (go_simp; rfl)); intro gb584 hg w7 hbox hb; have n0_ := Aside0.mk (blk_below (g := gb583) (o := .cells #[.slice A0_0 l0_0.length c0_0, .slice A0_1 l0_1.length c0_1, .int .i64 a0_2, .int .i64 a0_3] 30 (0, 0)) (by (with_reducible repeat (first | refine blk_drewN ?_ _ | refine blk_drew ?_ | refine blk_alloc ?_ _)); exact BK583.out) hb); have n1_ := Aside0.mk (below_step (by repeat (first | (with_reducible first | exact HB.out | apply below_alloc | apply pw_below_drewN | apply below_drew1 | refine below_set ?_ GE583.out) | exact HB.out)) hb); have n2_ := Aside0.mk (hbox); have n3_ := Aside0.mk ((by rw [hg]; exact (below_size (by repeat (first | (with_reducible first | exact HB.out | apply below_alloc | apply pw_below_drewN | apply below_drew1 | refine below_set ?_ GE583.out) | exact HB.out))) : w.heap.size ≤ gb584)); have n4_ := Aside0.mk ((by rw [hg]; exact (below_size (by repeat (first | (with_reducible first | exact HB.out | apply below_alloc | apply pw_below_drewN | apply below_drew1 | refine below_set ?_ GE583.out) | exact HB.out))) : w.heap.size ≤ gb584)); have n5_ := Aside0.mk ((by rw [hg]; exact Nat.ne_of_lt (blk_lt (g := gb583) (o := .cells #[.slice A0_0 l0_0.length c0_0, .slice A0_1 l0_1.length c0_1, .int .i64 a0_2, .int .i64 a0_3] 30 (0, 0)) (by (with_reducible repeat (first | refine blk_drewN ?_ _ | refine blk_drew ?_ | refine blk_alloc ?_ _)); exact BK583.out)) : gb583 ≠ gb584)); have n6_ := Aside0.mk ((by rw [hg]; exact Nat.ne_of_gt (blk_lt (g := gb583) (o := .cells #[.slice A0_0 l0_0.length c0_0, .slice A0_1 l0_1.length c0_1, .int .i64 a0_2, .int .i64 a0_3] 30 (0, 0)) (by (with_reducible repeat (first | refine blk_drewN ?_ _ | refine blk_drew ?_ | refine blk_alloc ?_ _)); exact BK583.out)) : gb584 ≠ gb583)); clear BK583; clear HB; have BK583 := n0_; have HB := n1_; have BK584 := n2_; have GW584 := n3_; have GE584 := n4_; have NB583_584 := n5_; have NB584_583 := n6_; clear n0_ n1_ n2_ n3_ n4_ n5_ n6_; clear hb hbox hg))
  (try simp only [Act.put, List.setIfInBounds_toArray, List.set_cons_zero, List.set_cons_succ])
  go_cut [18] (fun v18 wc => ∃ (kq : Nat) (x18_4 : Bool), v18 = .bool x18_4 ∧ Aside0 (impl_DiskCrash.j0 kq a1 a2 a3 x18_4 l0_0 l0_1 a0_2 a0_3 = some (r1, r2, r3, r4)) ∧ Aside0 (kq ≤ k) ∧ Aside0 (wc.heap[gb583]? = some (.cells #[(.slice A0_0 l0_0.length c0_0), (.slice A0_1 l0_1.length c0_1), .int .i64 a0_2, .int .i64 a0_3] 30 (0, 0))) ∧ Aside0 (wc.heap[gb584]? = some (.cells #[(.slice none 0 0), (.slice none 0 0), .int .i64 0, .int .i64 0] 30 (0, 0))) ∧ Aside0 (Below w.heap.size w wc))
  case first =>
    have H := HC5.out
    clear HC5
    replace H := Option.bind_eq_some_iff.mp H
    obtain ⟨t585, A80, H⟩ := H
    replace H : (if t585 = true then (impl_DiskCrash.j0 k a1 a2 a3 (decide (a1 < 0)) l0_0 l0_1 a0_2 a0_3) else (impl_DiskCrash.j0 k a1 a2 a3 true l0_0 l0_1 a0_2 a0_3)) = some (r1, r2, r3, r4) := H
    have A8 := Aside0.mk A80
    clear A80
    by_cases c9 : t585 = true
    · subst c9
      have H1 : (impl_DiskCrash.j0 k a1 a2 a3 (decide (a1 < 0)) l0_0 l0_1 a0_2 a0_3) = some (r1, r2, r3, r4) := by rw [if_pos rfl] at H; exact H
      clear H
      have H := H1
      clear H1
      have H' := Aside0.mk H
      clear H
      have hnb10 := NB583_584.out
      have hnc10 := NB584_583.out
      have hcz11_0 : w7.cell? ⟨gb583, 0, none⟩ = some (.slice A0_0 l0_0.length c0_0) := (blk_cell BK583.out 0).trans rfl
      have hcz11_1 : w7.cell? ⟨gb583, 1, none⟩ = some (.slice A0_1 l0_1.length c0_1) := (blk_cell BK583.out 1).trans rfl
      have hcz11_2 : w7.cell? ⟨gb583, 2, none⟩ = some (.int .i64 a0_2) := (blk_cell BK583.out 2).trans rfl
      have hcz11_3 : w7.cell? ⟨gb583, 3, none⟩ = some (.int .i64 a0_3) := (blk_cell BK583.out 3).trans rfl
      have hfz11_0 := blk_frozen BK583.out 0
      have hfz11_1 := blk_frozen BK583.out 1
      have hfz11_2 := blk_frozen BK583.out 2
      have hfz11_3 := blk_frozen BK583.out 3
      go_wp2_with (first | ((with_reducible refine gate_callee (f := 31) rfl ?_); refine goesL_ (some 13) rfl rfl Try.func31 (by kernel_rfl) rfl #[.agg #[.slice A0_0 l0_0.length c0_0, .slice A0_1 l0_1.length c0_1, .int .i64 a0_2, .int .i64 a0_3]] rfl (by (try simp only [List.map_toArray, List.map_cons, List.map_nil]); first | done | rfl | (simp only [List.length_drop, List.length_take]; rfl)) ?_; (with_reducible refine (impl_DiskOk.calls _ _ l0_0 _ _ l0_1 a0_2 a0_3 true _ ?side1 ?side2 ?side3 ?side4 A8.out).mono ?_); (case side1 => repeat (first | exact (Kd.C_below HR0_0.out HB.out) | (with_reducible refine Kd.C_alloc ?_ _) | (with_reducible refine Kd.C_drewN ?_ _) | (with_reducible refine Kd.C_drew ?_))); (case side2 => exact HC0_0.out); (case side3 => repeat (first | exact (Kd.C_below HR0_1.out HB.out) | (with_reducible refine Kd.C_alloc ?_ _) | (with_reducible refine Kd.C_drewN ?_ _) | (with_reducible refine Kd.C_drew ?_))); (case side4 => exact HC0_1.out); rintro e w12 ⟨rfl, hb⟩; refine ⟨_, rfl, ?_⟩; have n0_ := Aside0.mk (blk_below (g := gb583) (o := .cells #[.slice A0_0 l0_0.length c0_0, .slice A0_1 l0_1.length c0_1, .int .i64 a0_2, .int .i64 a0_3] 30 (0, 0)) (by (with_reducible repeat (first | refine blk_drewN ?_ _ | refine blk_drew ?_ | refine blk_alloc ?_ _)); exact BK583.out) hb); have n1_ := Aside0.mk (blk_below (g := gb584) (o := .cells #[.slice none 0 0, .slice none 0 0, .int .i64 0, .int .i64 0] 30 (0, 0)) (by (with_reducible repeat (first | refine blk_drewN ?_ _ | refine blk_drew ?_ | refine blk_alloc ?_ _)); exact BK584.out) hb); have n2_ := Aside0.mk (below_step (by repeat (first | (with_reducible first | exact HB.out | apply below_alloc | apply pw_below_drewN | apply below_drew1 | refine below_set ?_ GE583.out | refine below_set ?_ GE584.out) | exact HB.out)) hb); clear BK583; clear BK584; clear HB; have BK583 := n0_; have BK584 := n1_; have HB := n2_; clear n0_ n1_ n2_; (try clear hb); (try clear hb2); (try clear hk); (try clear hi)))
      go_meet
      case rel => exact ⟨_, (decide (a1 < 0)), (by first | rfl | (simp; done) | (simp [*]; done)), H', ⟨by first | omega | exact Nat.le_refl _⟩, ⟨by (with_reducible repeat (first | refine blk_drewN ?_ _ | refine blk_drew ?_ | refine blk_alloc ?_ _)); exact BK583.out⟩, ⟨by (with_reducible repeat (first | refine blk_drewN ?_ _ | refine blk_drew ?_ | refine blk_alloc ?_ _)); exact BK584.out⟩, ⟨by repeat (first | (with_reducible first | exact HB.out | apply below_alloc | apply pw_below_drewN | apply below_drew1 | refine below_set ?_ GE583.out | refine below_set ?_ GE584.out) | exact HB.out)⟩⟩
    · replace c9 := Bool.eq_false_iff.mpr c9
      subst c9
      have H1 : (impl_DiskCrash.j0 k a1 a2 a3 true l0_0 l0_1 a0_2 a0_3) = some (r1, r2, r3, r4) := by rw [if_neg (show ¬ (false = true) by decide)] at H; exact H
      clear H
      have H := H1
      clear H1
      have H' := Aside0.mk H
      clear H
      have hnb13 := NB583_584.out
      have hnc13 := NB584_583.out
      have hcz14_0 : w7.cell? ⟨gb583, 0, none⟩ = some (.slice A0_0 l0_0.length c0_0) := (blk_cell BK583.out 0).trans rfl
      have hcz14_1 : w7.cell? ⟨gb583, 1, none⟩ = some (.slice A0_1 l0_1.length c0_1) := (blk_cell BK583.out 1).trans rfl
      have hcz14_2 : w7.cell? ⟨gb583, 2, none⟩ = some (.int .i64 a0_2) := (blk_cell BK583.out 2).trans rfl
      have hcz14_3 : w7.cell? ⟨gb583, 3, none⟩ = some (.int .i64 a0_3) := (blk_cell BK583.out 3).trans rfl
      have hfz14_0 := blk_frozen BK583.out 0
      have hfz14_1 := blk_frozen BK583.out 1
      have hfz14_2 := blk_frozen BK583.out 2
      have hfz14_3 := blk_frozen BK583.out 3
      go_wp2_with (first | ((with_reducible refine gate_callee (f := 31) rfl ?_); refine goesL_ (some 13) rfl rfl Try.func31 (by kernel_rfl) rfl #[.agg #[.slice A0_0 l0_0.length c0_0, .slice A0_1 l0_1.length c0_1, .int .i64 a0_2, .int .i64 a0_3]] rfl (by (try simp only [List.map_toArray, List.map_cons, List.map_nil]); first | done | rfl | (simp only [List.length_drop, List.length_take]; rfl)) ?_; (with_reducible refine (impl_DiskOk.calls _ _ l0_0 _ _ l0_1 a0_2 a0_3 false _ ?side1 ?side2 ?side3 ?side4 A8.out).mono ?_); (case side1 => repeat (first | exact (Kd.C_below HR0_0.out HB.out) | (with_reducible refine Kd.C_alloc ?_ _) | (with_reducible refine Kd.C_drewN ?_ _) | (with_reducible refine Kd.C_drew ?_))); (case side2 => exact HC0_0.out); (case side3 => repeat (first | exact (Kd.C_below HR0_1.out HB.out) | (with_reducible refine Kd.C_alloc ?_ _) | (with_reducible refine Kd.C_drewN ?_ _) | (with_reducible refine Kd.C_drew ?_))); (case side4 => exact HC0_1.out); rintro e w15 ⟨rfl, hb⟩; refine ⟨_, rfl, ?_⟩; have n0_ := Aside0.mk (blk_below (g := gb583) (o := .cells #[.slice A0_0 l0_0.length c0_0, .slice A0_1 l0_1.length c0_1, .int .i64 a0_2, .int .i64 a0_3] 30 (0, 0)) (by (with_reducible repeat (first | refine blk_drewN ?_ _ | refine blk_drew ?_ | refine blk_alloc ?_ _)); exact BK583.out) hb); have n1_ := Aside0.mk (blk_below (g := gb584) (o := .cells #[.slice none 0 0, .slice none 0 0, .int .i64 0, .int .i64 0] 30 (0, 0)) (by (with_reducible repeat (first | refine blk_drewN ?_ _ | refine blk_drew ?_ | refine blk_alloc ?_ _)); exact BK584.out) hb); have n2_ := Aside0.mk (below_step (by repeat (first | (with_reducible first | exact HB.out | apply below_alloc | apply pw_below_drewN | apply below_drew1 | refine below_set ?_ GE583.out | refine below_set ?_ GE584.out) | exact HB.out)) hb); clear BK583; clear BK584; clear HB; have BK583 := n0_; have BK584 := n1_; have HB := n2_; clear n0_ n1_ n2_; (try clear hb); (try clear hb2); (try clear hk); (try clear hi)))
      go_meet
      case rel => exact ⟨_, (true), (by first | rfl | (simp; done) | (simp [*]; done)), H', ⟨by first | omega | exact Nat.le_refl _⟩, ⟨by (with_reducible repeat (first | refine blk_drewN ?_ _ | refine blk_drew ?_ | refine blk_alloc ?_ _)); exact BK583.out⟩, ⟨by (with_reducible repeat (first | refine blk_drewN ?_ _ | refine blk_drew ?_ | refine blk_alloc ?_ _)); exact BK584.out⟩, ⟨by repeat (first | (with_reducible first | exact HB.out | apply below_alloc | apply pw_below_drewN | apply below_drew1 | refine below_set ?_ GE583.out | refine below_set ?_ GE584.out) | exact HB.out)⟩⟩
  case rest =>
    clear HC5
    try clear c1
    try clear p2
    try clear c3
    try clear c9
    try clear c10
    try clear c13
    try clear hcz11_0
    try clear hcz11_1
    try clear hcz11_2
    try clear hcz11_3
    try clear hcz14_0
    try clear hcz14_1
    try clear hcz14_2
    try clear hcz14_3
    try clear hfz11_0
    try clear hfz11_1
    try clear hfz11_2
    try clear hfz11_3
    try clear hfz14_0
    try clear hfz14_1
    try clear hfz14_2
    try clear hfz14_3
    obtain ⟨kq, x18_4, rfl, HA, HJ4, BK583, BK584, HB⟩ := hcut
    cases kq with
    | zero => exact absurd HA.out (by simp [impl_DiskCrash.j0])
    | succ kj4 =>
      have H := HA.out
      clear HA
      simp only [impl_DiskCrash.j0] at H
      by_cases c16 : x18_4 = true
      · subst c16
        have H1 : (some (([] : List ByteArray), ([] : List (S54)), 0, 0)) = some (r1, r2, r3, r4) := by rw [if_pos rfl] at H; exact H
        clear H
        have H := H1
        clear H1
        simp only [Option.some.injEq, Prod.mk.injEq] at H
        obtain ⟨rfl, rfl, rfl, rfl⟩ := H
        have hnb17 := NB584_583.out
        have hnc17 := NB583_584.out
        have hcz18_0 : wc.cell? ⟨gb584, 0, none⟩ = some (.slice none 0 0) := (blk_cell BK584.out 0).trans rfl
        have hcz18_1 : wc.cell? ⟨gb584, 1, none⟩ = some (.slice none 0 0) := (blk_cell BK584.out 1).trans rfl
        have hcz18_2 : wc.cell? ⟨gb584, 2, none⟩ = some (.int .i64 0) := (blk_cell BK584.out 2).trans rfl
        have hcz18_3 : wc.cell? ⟨gb584, 3, none⟩ = some (.int .i64 0) := (blk_cell BK584.out 3).trans rfl
        have hfz18_0 := blk_frozen BK584.out 0
        have hfz18_1 := blk_frozen BK584.out 1
        have hfz18_2 := blk_frozen BK584.out 2
        have hfz18_3 := blk_frozen BK584.out 3
        go_wp2
        refine bodyPost_ret (results_cell_row rfl _ _ gb584 30 #[.slice none 0 0, .slice none 0 0, .int .i64 0, .int .i64 0] (0, 0) _ rfl (by (with_reducible repeat (first | refine blk_drewN ?_ _ | refine blk_drew ?_ | refine blk_alloc ?_ _)); refine blk_put (cs := #[.slice none 0 0, .slice none 0 0, .int .i64 0, .int .i64 0]) ?_ 3 _ rfl; (with_reducible repeat (first | refine blk_drewN ?_ _ | refine blk_drew ?_ | refine blk_alloc ?_ _)); refine blk_put (cs := #[.slice none 0 0, .slice none 0 0, .int .i64 0, .int .i64 0]) ?_ 2 _ rfl; (with_reducible repeat (first | refine blk_drewN ?_ _ | refine blk_drew ?_ | refine blk_alloc ?_ _)); refine blk_put (cs := #[.slice none 0 0, .slice none 0 0, .int .i64 0, .int .i64 0]) ?_ 1 _ rfl; (with_reducible repeat (first | refine blk_drewN ?_ _ | refine blk_drew ?_ | refine blk_alloc ?_ _)); refine blk_put (cs := #[.slice none 0 0, .slice none 0 0, .int .i64 0, .int .i64 0]) ?_ 0 _ rfl; (with_reducible repeat (first | refine blk_drewN ?_ _ | refine blk_drew ?_ | refine blk_alloc ?_ _)); exact BK584.out) Try.underlying30 rfl (by kernel_rfl)) rfl ?_
        exact ⟨_, _, by first | rfl | (simp [errW_none, errW_some] <;> rfl) | (simp [*, errW_none, errW_some] <;> rfl), Kd.Q_of_R (by first | exact Kd.R_nil _ _ _ _ _ | exact Kd.N_nil _ _ _ _ _ | exact Kd.V_nil _ _ _ _ _ | exact Kd.Q_nil _ _ _ _ _ | exact Kd.S_nil _ _ _ _ _), by first | exact Kd.R_nil _ _ _ _ _ | exact Kd.N_nil _ _ _ _ _ | exact Kd.V_nil _ _ _ _ _ | exact Kd.Q_nil _ _ _ _ _ | exact Kd.S_nil _ _ _ _ _, by repeat (first | (with_reducible first | exact HB.out | apply below_alloc | apply pw_below_drewN | apply below_drew1 | refine below_set ?_ GE583.out | refine below_set ?_ GE584.out) | exact HB.out)⟩
      · replace c16 := Bool.eq_false_iff.mpr c16
        subst c16
        have H1 : ((impl_clone_string.f l0_0).bind fun t586 => (impl_DiskCrash.l0 kj4 a1 a2 a3 l0_1 (l0_1.length : Int) 0 t586 (-1) (-1))) = some (r1, r2, r3, r4) := by rw [if_neg (show ¬ (false = true) by decide)] at H; exact H
        clear H
        have H := H1
        clear H1
        replace H := Option.bind_eq_some_iff.mp H
        obtain ⟨t586, A190, H⟩ := H
        replace H : (impl_DiskCrash.l0 kj4 a1 a2 a3 l0_1 (l0_1.length : Int) 0 t586 (-1) (-1)) = some (r1, r2, r3, r4) := H
        have A19 := Aside0.mk A190
        clear A190
        have H' := Aside0.mk H
        clear H
        have hnb20 := NB583_584.out
        have hnc20 := NB584_583.out
        have hcz21_0 : wc.cell? ⟨gb583, 0, none⟩ = some (.slice A0_0 l0_0.length c0_0) := (blk_cell BK583.out 0).trans rfl
        have hcz21_1 : wc.cell? ⟨gb583, 1, none⟩ = some (.slice A0_1 l0_1.length c0_1) := (blk_cell BK583.out 1).trans rfl
        have hcz21_2 : wc.cell? ⟨gb583, 2, none⟩ = some (.int .i64 a0_2) := (blk_cell BK583.out 2).trans rfl
        have hcz21_3 : wc.cell? ⟨gb583, 3, none⟩ = some (.int .i64 a0_3) := (blk_cell BK583.out 3).trans rfl
        have hfz21_0 := blk_frozen BK583.out 0
        have hfz21_1 := blk_frozen BK583.out 1
        have hfz21_2 := blk_frozen BK583.out 2
        have hfz21_3 := blk_frozen BK583.out 3
        go_wp2_with (first | ((with_reducible refine gate_callee (f := 80) rfl ?_); refine goesL_ (some 22) rfl rfl Try.func80 (by kernel_rfl) rfl #[.slice A0_0 l0_0.length c0_0] rfl (by (try simp only [List.map_toArray, List.map_cons, List.map_nil]); first | done | rfl | (simp only [List.length_drop, List.length_take]; rfl)) ?_; (with_reducible refine (impl_clone_string.calls _ _ l0_0 t586 _ ?side1 ?side2 A19.out).mono ?_); (case side1 => repeat (first | exact (Kd.C_below HR0_0.out HB.out) | (with_reducible refine Kd.C_alloc ?_ _) | (with_reducible refine Kd.C_drewN ?_ _) | (with_reducible refine Kd.C_drew ?_))); (case side2 => exact HC0_0.out); rintro e w22 ⟨v587, rfl, ho0, hb⟩; refine ⟨_, rfl, ?_⟩; have n0_ := Aside0.mk (Kd.Q_lower ho0 (below_size (by repeat (first | (with_reducible first | exact HB.out | apply below_alloc | apply pw_below_drewN | apply below_drew1 | refine below_set ?_ GE583.out | refine below_set ?_ GE584.out) | exact HB.out)))); have n1_ := Aside0.mk (blk_below (g := gb583) (o := .cells #[.slice A0_0 l0_0.length c0_0, .slice A0_1 l0_1.length c0_1, .int .i64 a0_2, .int .i64 a0_3] 30 (0, 0)) (by (with_reducible repeat (first | refine blk_drewN ?_ _ | refine blk_drew ?_ | refine blk_alloc ?_ _)); exact BK583.out) hb); have n2_ := Aside0.mk (blk_below (g := gb584) (o := .cells #[.slice none 0 0, .slice none 0 0, .int .i64 0, .int .i64 0] 30 (0, 0)) (by (with_reducible repeat (first | refine blk_drewN ?_ _ | refine blk_drew ?_ | refine blk_alloc ?_ _)); exact BK584.out) hb); have n3_ := Aside0.mk (below_step (by repeat (first | (with_reducible first | exact HB.out | apply below_alloc | apply pw_below_drewN | apply below_drew1 | refine below_set ?_ GE583.out | refine below_set ?_ GE584.out) | exact HB.out)) hb); clear BK583; clear BK584; clear HB; have HO588 := n0_; have BK583 := n1_; have BK584 := n2_; have HB := n3_; clear n0_ n1_ n2_ n3_; (try clear hb); (try clear hb2); (try clear hk); (try clear hi); (try clear ho0); obtain ⟨Ao23, co23, eo23, _⟩ := Kd.Q_slice HO588.out; subst eo23) | ((with_reducible refine gate_dst (N := 9) rfl ?_); refine box_event ?hg (N := 9) ?hd (cs := #[.slice none 0 0, .slice none 0 0, .int .i64 0, .int .i64 0]) (t := 30) ?hr ?_; (case hd => rfl); (case hg => rfl); (case hr => first | (go_simp; done) | (go_simp; rfl)); intro gb589 hg w24 hbox hb; have n0_ := Aside0.mk (Kd.Q_below (by (with_reducible repeat (first | apply Kd.Q_alloc | apply Kd.Q_drewN | apply Kd.Q_drew)); exact HO588.out) hb); have n1_ := Aside0.mk (blk_below (g := gb583) (o := .cells #[.slice A0_0 l0_0.length c0_0, .slice A0_1 l0_1.length c0_1, .int .i64 a0_2, .int .i64 a0_3] 30 (0, 0)) (by (with_reducible repeat (first | refine blk_drewN ?_ _ | refine blk_drew ?_ | refine blk_alloc ?_ _)); exact BK583.out) hb); have n2_ := Aside0.mk (blk_below (g := gb584) (o := .cells #[.slice none 0 0, .slice none 0 0, .int .i64 0, .int .i64 0] 30 (0, 0)) (by (with_reducible repeat (first | refine blk_drewN ?_ _ | refine blk_drew ?_ | refine blk_alloc ?_ _)); exact BK584.out) hb); have n3_ := Aside0.mk (below_step (by repeat (first | (with_reducible first | exact HB.out | apply below_alloc | apply pw_below_drewN | apply below_drew1 | refine below_set ?_ GE583.out | refine below_set ?_ GE584.out) | exact HB.out)) hb); have n4_ := Aside0.mk (hbox); have n5_ := Aside0.mk ((by rw [hg]; exact (below_size (by repeat (first | (with_reducible first | exact HB.out | apply below_alloc | apply pw_below_drewN | apply below_drew1 | refine below_set ?_ GE583.out | refine below_set ?_ GE584.out) | exact HB.out))) : w.heap.size ≤ gb589)); have n6_ := Aside0.mk ((by rw [hg]; exact (below_size (by repeat (first | (with_reducible first | exact HB.out | apply below_alloc | apply pw_below_drewN | apply below_drew1 | refine below_set ?_ GE583.out | refine below_set ?_ GE584.out) | exact HB.out))) : w.heap.size ≤ gb589)); have n7_ := Aside0.mk ((by rw [hg]; exact Nat.ne_of_lt (blk_lt (g := gb583) (o := .cells #[.slice A0_0 l0_0.length c0_0, .slice A0_1 l0_1.length c0_1, .int .i64 a0_2, .int .i64 a0_3] 30 (0, 0)) (by (with_reducible repeat (first | refine blk_drewN ?_ _ | refine blk_drew ?_ | refine blk_alloc ?_ _)); exact BK583.out)) : gb583 ≠ gb589)); have n8_ := Aside0.mk ((by rw [hg]; exact Nat.ne_of_gt (blk_lt (g := gb583) (o := .cells #[.slice A0_0 l0_0.length c0_0, .slice A0_1 l0_1.length c0_1, .int .i64 a0_2, .int .i64 a0_3] 30 (0, 0)) (by (with_reducible repeat (first | refine blk_drewN ?_ _ | refine blk_drew ?_ | refine blk_alloc ?_ _)); exact BK583.out)) : gb589 ≠ gb583)); have n9_ := Aside0.mk ((by rw [hg]; exact Nat.ne_of_lt (blk_lt (g := gb584) (o := .cells #[.slice none 0 0, .slice none 0 0, .int .i64 0, .int .i64 0] 30 (0, 0)) (by (with_reducible repeat (first | refine blk_drewN ?_ _ | refine blk_drew ?_ | refine blk_alloc ?_ _)); exact BK584.out)) : gb584 ≠ gb589)); have n10_ := Aside0.mk ((by rw [hg]; exact Nat.ne_of_gt (blk_lt (g := gb584) (o := .cells #[.slice none 0 0, .slice none 0 0, .int .i64 0, .int .i64 0] 30 (0, 0)) (by (with_reducible repeat (first | refine blk_drewN ?_ _ | refine blk_drew ?_ | refine blk_alloc ?_ _)); exact BK584.out)) : gb589 ≠ gb584)); clear HO588; clear BK583; clear BK584; clear HB; have HO588 := n0_; have BK583 := n1_; have BK584 := n2_; have HB := n3_; have BK589 := n4_; have GW589 := n5_; have GE589 := n6_; have NB583_589 := n7_; have NB589_583 := n8_; have NB584_589 := n9_; have NB589_584 := n10_; clear n0_ n1_ n2_ n3_ n4_ n5_ n6_ n7_ n8_ n9_ n10_; clear hb hbox hg; have hnb25 := NB589_583.out; have hnc25 := NB583_589.out; have hnb26 := NB589_584.out; have hnc26 := NB584_589.out; have hcz27_0 : w24.cell? ⟨gb589, 0, none⟩ = some (.slice none 0 0) := (blk_cell BK589.out 0).trans rfl; have hcz27_1 : w24.cell? ⟨gb589, 1, none⟩ = some (.slice none 0 0) := (blk_cell BK589.out 1).trans rfl; have hcz27_2 : w24.cell? ⟨gb589, 2, none⟩ = some (.int .i64 0) := (blk_cell BK589.out 2).trans rfl; have hcz27_3 : w24.cell? ⟨gb589, 3, none⟩ = some (.int .i64 0) := (blk_cell BK589.out 3).trans rfl; have hfz27_0 := blk_frozen BK589.out 0; have hfz27_1 := blk_frozen BK589.out 1; have hfz27_2 := blk_frozen BK589.out 2; have hfz27_3 := blk_frozen BK589.out 3; have hcz28_0 : w24.cell? ⟨gb583, 0, none⟩ = some (.slice A0_0 l0_0.length c0_0) := (blk_cell BK583.out 0).trans rfl; have hcz28_1 : w24.cell? ⟨gb583, 1, none⟩ = some (.slice A0_1 l0_1.length c0_1) := (blk_cell BK583.out 1).trans rfl; have hcz28_2 : w24.cell? ⟨gb583, 2, none⟩ = some (.int .i64 a0_2) := (blk_cell BK583.out 2).trans rfl; have hcz28_3 : w24.cell? ⟨gb583, 3, none⟩ = some (.int .i64 a0_3) := (blk_cell BK583.out 3).trans rfl; have hfz28_0 := blk_frozen BK583.out 0; have hfz28_1 := blk_frozen BK583.out 1; have hfz28_2 := blk_frozen BK583.out 2; have hfz28_3 := blk_frozen BK583.out 3))
        go_loopg [27] kj4 (fun kq v27 w' => ∃ (x27_2 : Int) (x590000_2 : List ByteArray) (u590000 : Value), v27 = .int .i64 x27_2 ∧ Aside0 (impl_DiskCrash.l0 kq a1 a2 a3 l0_1 (l0_1.length : Int) x27_2 x590000_2 (-1) (-1) = some (r1, r2, r3, r4)) ∧ Aside0 (kq ≤ kj4) ∧ Aside0 (Kd.Q Kd.string 9 w' w.heap.size (fun _ => True) u590000 x590000_2) ∧ Aside0 (w'.heap[gb583]? = some (.cells #[(.slice A0_0 l0_0.length c0_0), (.slice A0_1 l0_1.length c0_1), .int .i64 a0_2, .int .i64 a0_3] 30 (0, 0))) ∧ Aside0 (w'.heap[gb584]? = some (.cells #[(.slice none 0 0), (.slice none 0 0), .int .i64 0, .int .i64 0] 30 (0, 0))) ∧ Aside0 (w'.heap[gb589]? = some (.cells #[u590000, (.slice none 0 0), .int .i64 (-1), .int .i64 (-1)] 30 (0, 0))) ∧ Aside0 (Below w.heap.size w w'))
        case atStart => exact ⟨(0), (t586), (.slice Ao23 t586.length co23), (by first | rfl | (simp; done) | (simp [*]; done)), H', ⟨Nat.le_refl _⟩, ⟨by (with_reducible repeat (first | apply Kd.Q_alloc | apply Kd.Q_drewN | apply Kd.Q_drew)); exact Kd.Q_mono (Kd.Q_far (p := ⟨gb589, 3, none⟩) (Kd.Q_far (p := ⟨gb589, 2, none⟩) (Kd.Q_far (p := ⟨gb589, 1, none⟩) (Kd.Q_far (p := ⟨gb589, 0, none⟩) (Kd.Q_types HO588.out BK589.out (by decide)) (fun _ hk => hk.2) (.slice Ao23 t586.length co23)) (fun _ hk => hk.2) (.slice none 0 0)) (fun _ hk => hk.2) (.int .i64 (-1))) (fun _ hk => hk.2) (.int .i64 (-1))) (fun _ hk => trivial)⟩, ⟨by (with_reducible repeat (first | refine blk_drewN ?_ _ | refine blk_drew ?_ | refine blk_alloc ?_ _)); refine blk_far ?_ NB583_589.out _; (with_reducible repeat (first | refine blk_drewN ?_ _ | refine blk_drew ?_ | refine blk_alloc ?_ _)); refine blk_far ?_ NB583_589.out _; (with_reducible repeat (first | refine blk_drewN ?_ _ | refine blk_drew ?_ | refine blk_alloc ?_ _)); refine blk_far ?_ NB583_589.out _; (with_reducible repeat (first | refine blk_drewN ?_ _ | refine blk_drew ?_ | refine blk_alloc ?_ _)); refine blk_far ?_ NB583_589.out _; (with_reducible repeat (first | refine blk_drewN ?_ _ | refine blk_drew ?_ | refine blk_alloc ?_ _)); exact BK583.out⟩, ⟨by (with_reducible repeat (first | refine blk_drewN ?_ _ | refine blk_drew ?_ | refine blk_alloc ?_ _)); refine blk_far ?_ NB584_589.out _; (with_reducible repeat (first | refine blk_drewN ?_ _ | refine blk_drew ?_ | refine blk_alloc ?_ _)); refine blk_far ?_ NB584_589.out _; (with_reducible repeat (first | refine blk_drewN ?_ _ | refine blk_drew ?_ | refine blk_alloc ?_ _)); refine blk_far ?_ NB584_589.out _; (with_reducible repeat (first | refine blk_drewN ?_ _ | refine blk_drew ?_ | refine blk_alloc ?_ _)); refine blk_far ?_ NB584_589.out _; (with_reducible repeat (first | refine blk_drewN ?_ _ | refine blk_drew ?_ | refine blk_alloc ?_ _)); exact BK584.out⟩, ⟨by (with_reducible repeat (first | refine blk_drewN ?_ _ | refine blk_drew ?_ | refine blk_alloc ?_ _)); refine blk_put (cs := #[.slice Ao23 t586.length co23, .slice none 0 0, .int .i64 (-1), .int .i64 0]) ?_ 3 _ rfl; (with_reducible repeat (first | refine blk_drewN ?_ _ | refine blk_drew ?_ | refine blk_alloc ?_ _)); refine blk_put (cs := #[.slice Ao23 t586.length co23, .slice none 0 0, .int .i64 0, .int .i64 0]) ?_ 2 _ rfl; (with_reducible repeat (first | refine blk_drewN ?_ _ | refine blk_drew ?_ | refine blk_alloc ?_ _)); refine blk_put (cs := #[.slice Ao23 t586.length co23, .slice none 0 0, .int .i64 0, .int .i64 0]) ?_ 1 _ rfl; (with_reducible repeat (first | refine blk_drewN ?_ _ | refine blk_drew ?_ | refine blk_alloc ?_ _)); refine blk_put (cs := #[.slice none 0 0, .slice none 0 0, .int .i64 0, .int .i64 0]) ?_ 0 _ rfl; (with_reducible repeat (first | refine blk_drewN ?_ _ | refine blk_drew ?_ | refine blk_alloc ?_ _)); exact BK589.out⟩, ⟨by repeat (first | (with_reducible first | exact HB.out | apply below_alloc | apply pw_below_drewN | apply below_drew1 | refine below_set ?_ GE583.out | refine below_set ?_ GE584.out | refine below_set ?_ GE589.out) | exact HB.out)⟩⟩
        case round =>
          clear H'
          try clear c1
          try clear c2
          try clear p2
          try clear c3
          try clear c8
          try clear c9
          try clear c10
          try clear c13
          try clear c16
          try clear c17
          try clear c20
          try clear c25
          try clear c26
          try clear hcz11_0
          try clear hcz11_1
          try clear hcz11_2
          try clear hcz11_3
          try clear hcz14_0
          try clear hcz14_1
          try clear hcz14_2
          try clear hcz14_3
          try clear hcz18_0
          try clear hcz18_1
          try clear hcz18_2
          try clear hcz18_3
          try clear hcz21_0
          try clear hcz21_1
          try clear hcz21_2
          try clear hcz21_3
          try clear hcz27_0
          try clear hcz27_1
          try clear hcz27_2
          try clear hcz27_3
          try clear hcz28_0
          try clear hcz28_1
          try clear hcz28_2
          try clear hcz28_3
          try clear hfz11_0
          try clear hfz11_1
          try clear hfz11_2
          try clear hfz11_3
          try clear hfz14_0
          try clear hfz14_1
          try clear hfz14_2
          try clear hfz14_3
          try clear hfz18_0
          try clear hfz18_1
          try clear hfz18_2
          try clear hfz18_3
          try clear hfz21_0
          try clear hfz21_1
          try clear hfz21_2
          try clear hfz21_3
          try clear hfz27_0
          try clear hfz27_1
          try clear hfz27_2
          try clear hfz27_3
          try clear hfz28_0
          try clear hfz28_1
          try clear hfz28_2
          try clear hfz28_3
          try clear p2
          obtain ⟨x27_2, x590000_2, u590000, rfl, HA, HK2, HO_590000, BK583, BK584, BK589, HB⟩ := hrel
          cases gk with
          | zero => exact absurd HA.out (by simp [impl_DiskCrash.l0])
          | succ k2 =>
            have H := HA.out
            clear HA
            simp only [impl_DiskCrash.l0] at H
            by_cases c29 : x27_2 < (l0_1.length : Int)
            · rw [if_pos c29] at H
              have c29b0 : decide (x27_2 < (l0_1.length : Int)) = true := decide_eq_true c29
              clear c29
              by_cases c30 : 0 ≤ x27_2
              · rw [if_pos c30] at H
                have c30b0 : decide (0 ≤ x27_2) = true := decide_eq_true c30
                clear c30
                by_cases c31 : x27_2 < (l0_1.length : Int)
                · rw [if_pos c31] at H
                  have c31b0 : decide (x27_2 < (l0_1.length : Int)) = true := decide_eq_true c31
                  clear c31
                  obtain ⟨ji32, hji32⟩ : ∃ j_ : Int, (Int.tmod x27_2 60) = j_ := ⟨_, rfl⟩
                  replace H : (if 0 ≤ (ji32) then (if (Go.bits .and .i64 (shr .i64 a1 (ji32)) 1) = 1 then (if 0 ≤ ((rd_T54 l0_1 x27_2).f0) then (if ((rd_T54 l0_1 x27_2).f0) < (x590000_2.length : Int) then (impl_DiskCrash.l0 k2 a1 a2 a3 l0_1 (l0_1.length : Int) (wrap64 (x27_2 + 1)) (x590000_2.set (((rd_T54 l0_1 x27_2).f0) : Int).toNat ((rd_T54 l0_1 x27_2).f1)) (-1) (-1)) else (none)) else (none)) else (if x27_2 = a2 then (if 0 ≤ ((rd_T54 l0_1 x27_2).f0) then (if ((rd_T54 l0_1 x27_2).f0) < (x590000_2.length : Int) then ((impl_torn.f (rdOf ByteArray.empty x590000_2 ((rd_T54 l0_1 x27_2).f0)) ((rd_T54 l0_1 x27_2).f1) a3).bind fun t594 => (impl_DiskCrash.l0 k2 a1 a2 a3 l0_1 (l0_1.length : Int) (wrap64 (x27_2 + 1)) (x590000_2.set (((rd_T54 l0_1 x27_2).f0) : Int).toNat t594) (-1) (-1))) else (none)) else (none)) else (impl_DiskCrash.l0 k2 a1 a2 a3 l0_1 (l0_1.length : Int) (wrap64 (x27_2 + 1)) x590000_2 (-1) (-1)))) else (none)) = some (r1, r2, r3, r4) := by first | (rw [hji32] at H; exact H) | (simp only [hji32] at H ⊢; exact H)
                  by_cases c33 : 0 ≤ (ji32)
                  · rw [if_pos c33] at H
                    have c33b0 := eq_true c33
                    have c33b1 : decide (0 ≤ (ji32)) = true := decide_eq_true c33
                    clear c33
                    obtain ⟨ji34, hji34⟩ : ∃ j_ : Int, (shr .i64 a1 (ji32)) = j_ := ⟨_, rfl⟩
                    replace H : (if (Go.bits .and .i64 (ji34) 1) = 1 then (if 0 ≤ ((rd_T54 l0_1 x27_2).f0) then (if ((rd_T54 l0_1 x27_2).f0) < (x590000_2.length : Int) then (impl_DiskCrash.l0 k2 a1 a2 a3 l0_1 (l0_1.length : Int) (wrap64 (x27_2 + 1)) (x590000_2.set (((rd_T54 l0_1 x27_2).f0) : Int).toNat ((rd_T54 l0_1 x27_2).f1)) (-1) (-1)) else (none)) else (none)) else (if x27_2 = a2 then (if 0 ≤ ((rd_T54 l0_1 x27_2).f0) then (if ((rd_T54 l0_1 x27_2).f0) < (x590000_2.length : Int) then ((impl_torn.f (rdOf ByteArray.empty x590000_2 ((rd_T54 l0_1 x27_2).f0)) ((rd_T54 l0_1 x27_2).f1) a3).bind fun t594 => (impl_DiskCrash.l0 k2 a1 a2 a3 l0_1 (l0_1.length : Int) (wrap64 (x27_2 + 1)) (x590000_2.set (((rd_T54 l0_1 x27_2).f0) : Int).toNat t594) (-1) (-1))) else (none)) else (none)) else (impl_DiskCrash.l0 k2 a1 a2 a3 l0_1 (l0_1.length : Int) (wrap64 (x27_2 + 1)) x590000_2 (-1) (-1)))) = some (r1, r2, r3, r4) := by first | (rw [hji34] at H; exact H) | (simp only [hji34] at H ⊢; exact H)
                    have hji34_ : (a1 / 2 ^ min (ji32).toNat 64) = ji34 := hji34
                    have hji34z : (ji32) ≤ 64 → (a1 / 2 ^ (ji32).toNat) = ji34 := shr_small hji34
                    by_cases c35 : (Go.bits .and .i64 (ji34) 1) = 1
                    · rw [if_pos c35] at H
                      have c35b0 : ((Go.bits .and .i64 (ji34) 1) == 1) = true := beq_iff_eq.mpr c35
                      have c35b1 : ((Go.bits .and .i64 (ji34) 1) != 1) = false := bne_eq_false_iff_eq.mpr c35
                      clear c35
                      by_cases c36 : 0 ≤ ((rd_T54 l0_1 x27_2).f0)
                      · rw [if_pos c36] at H
                        have c36b0 : decide (0 ≤ ((rd_T54 l0_1 x27_2).f0)) = true := decide_eq_true c36
                        clear c36
                        by_cases c37 : ((rd_T54 l0_1 x27_2).f0) < (x590000_2.length : Int)
                        · rw [if_pos c37] at H
                          have c37b0 : decide (((rd_T54 l0_1 x27_2).f0) < (x590000_2.length : Int)) = true := decide_eq_true c37
                          clear c37
                          obtain ⟨y592, hy592⟩ : ∃ y_ : List ByteArray, y_ = (x590000_2.set (((rd_T54 l0_1 x27_2).f0) : Int).toNat ((rd_T54 l0_1 x27_2).f1)) := ⟨_, rfl⟩
                          replace H : (impl_DiskCrash.l0 k2 a1 a2 a3 l0_1 (l0_1.length : Int) (wrap64 (x27_2 + 1)) y592 (-1) (-1)) = some (r1, r2, r3, r4) := by first | (rw [hy592]; with_reducible exact H) | (have H2_ := (Option.bind_some _ _).symm.trans H; rw [hy592]; with_reducible exact H2_) | (have H2_ := (Option.bind_some _ _).symm.trans H; with_reducible exact H2_) | with_reducible exact H | (rw [hy592]; exact H) | exact H
                          have Ny592 := Aside0.mk hy592
                          clear hy592
                          have H' := Aside0.mk H
                          clear H
                          have p590 : 0 ≤ (x27_2 : Int) := of_decide_eq_true (by first | (with_reducible assumption) | assumption)
                          have q590 : x27_2 < (l0_1.length : Int) := of_decide_eq_true (by first | (with_reducible assumption) | assumption)
                          obtain ⟨ad590, e590, hx590_0, hx590_1⟩ := at_T54 HR0_1.out x27_2 p590 q590
                          cases e590
                          replace hx590_0 := (HB.out.cell (World.block_lt_of_cell? w _ hx590_0)).trans hx590_0
                          replace hx590_1 := (HB.out.cell (World.block_lt_of_cell? w _ hx590_1)).trans hx590_1
                          replace p590 := eq_true p590
                          replace q590 := eq_true q590
                          go_wp2_with (first | ((with_reducible refine gate_dst (N := 11) rfl ?_); refine box_event ?hg (N := 11) ?hd (cs := #[.int .i64 0, .string (⟨#[]⟩ : ByteArray)]) (t := 54) ?hr ?_; (case hd => rfl); (case hg => rfl); (case hr => first | (go_simp; done) | (go_simp; rfl)); intro gb591 hg w39 hbox hb; have n0_ := Aside0.mk (Kd.Q_below (by (with_reducible repeat (first | apply Kd.Q_alloc | apply Kd.Q_drewN | apply Kd.Q_drew)); exact HO_590000.out) hb); have n1_ := Aside0.mk (blk_below (g := gb583) (o := .cells #[.slice A0_0 l0_0.length c0_0, .slice (some ad590) l0_1.length c0_1, .int .i64 a0_2, .int .i64 a0_3] 30 (0, 0)) (by (with_reducible repeat (first | refine blk_drewN ?_ _ | refine blk_drew ?_ | refine blk_alloc ?_ _)); exact BK583.out) hb); have n2_ := Aside0.mk (blk_below (g := gb584) (o := .cells #[.slice none 0 0, .slice none 0 0, .int .i64 0, .int .i64 0] 30 (0, 0)) (by (with_reducible repeat (first | refine blk_drewN ?_ _ | refine blk_drew ?_ | refine blk_alloc ?_ _)); exact BK584.out) hb); have n3_ := Aside0.mk (blk_below (g := gb589) (o := .cells #[u590000, .slice none 0 0, .int .i64 (-1), .int .i64 (-1)] 30 (0, 0)) (by (with_reducible repeat (first | refine blk_drewN ?_ _ | refine blk_drew ?_ | refine blk_alloc ?_ _)); exact BK589.out) hb); have n4_ := Aside0.mk (below_step (by repeat (first | (with_reducible first | exact HB.out | apply below_alloc | apply pw_below_drewN | apply below_drew1 | refine below_set ?_ GE583.out | refine below_set ?_ GE584.out | refine below_set ?_ GE589.out) | exact HB.out)) hb); have n5_ := Aside0.mk (hbox); have n6_ := Aside0.mk ((by rw [hg]; exact (below_size (by repeat (first | (with_reducible first | exact HB.out | apply below_alloc | apply pw_below_drewN | apply below_drew1 | refine below_set ?_ GE583.out | refine below_set ?_ GE584.out | refine below_set ?_ GE589.out) | exact HB.out))) : w.heap.size ≤ gb591)); have n7_ := Aside0.mk ((by rw [hg]; exact (below_size (by repeat (first | (with_reducible first | exact HB.out | apply below_alloc | apply pw_below_drewN | apply below_drew1 | refine below_set ?_ GE583.out | refine below_set ?_ GE584.out | refine below_set ?_ GE589.out) | exact HB.out))) : w.heap.size ≤ gb591)); have n8_ := Aside0.mk ((by rw [hg]; exact Nat.ne_of_lt (blk_lt (g := gb583) (o := .cells #[.slice A0_0 l0_0.length c0_0, .slice (some ad590) l0_1.length c0_1, .int .i64 a0_2, .int .i64 a0_3] 30 (0, 0)) (by (with_reducible repeat (first | refine blk_drewN ?_ _ | refine blk_drew ?_ | refine blk_alloc ?_ _)); exact BK583.out)) : gb583 ≠ gb591)); have n9_ := Aside0.mk ((by rw [hg]; exact Nat.ne_of_gt (blk_lt (g := gb583) (o := .cells #[.slice A0_0 l0_0.length c0_0, .slice (some ad590) l0_1.length c0_1, .int .i64 a0_2, .int .i64 a0_3] 30 (0, 0)) (by (with_reducible repeat (first | refine blk_drewN ?_ _ | refine blk_drew ?_ | refine blk_alloc ?_ _)); exact BK583.out)) : gb591 ≠ gb583)); have n10_ := Aside0.mk ((by rw [hg]; exact Nat.ne_of_lt (blk_lt (g := gb584) (o := .cells #[.slice none 0 0, .slice none 0 0, .int .i64 0, .int .i64 0] 30 (0, 0)) (by (with_reducible repeat (first | refine blk_drewN ?_ _ | refine blk_drew ?_ | refine blk_alloc ?_ _)); exact BK584.out)) : gb584 ≠ gb591)); have n11_ := Aside0.mk ((by rw [hg]; exact Nat.ne_of_gt (blk_lt (g := gb584) (o := .cells #[.slice none 0 0, .slice none 0 0, .int .i64 0, .int .i64 0] 30 (0, 0)) (by (with_reducible repeat (first | refine blk_drewN ?_ _ | refine blk_drew ?_ | refine blk_alloc ?_ _)); exact BK584.out)) : gb591 ≠ gb584)); have n12_ := Aside0.mk ((by rw [hg]; exact Nat.ne_of_lt (blk_lt (g := gb589) (o := .cells #[u590000, .slice none 0 0, .int .i64 (-1), .int .i64 (-1)] 30 (0, 0)) (by (with_reducible repeat (first | refine blk_drewN ?_ _ | refine blk_drew ?_ | refine blk_alloc ?_ _)); exact BK589.out)) : gb589 ≠ gb591)); have n13_ := Aside0.mk ((by rw [hg]; exact Nat.ne_of_gt (blk_lt (g := gb589) (o := .cells #[u590000, .slice none 0 0, .int .i64 (-1), .int .i64 (-1)] 30 (0, 0)) (by (with_reducible repeat (first | refine blk_drewN ?_ _ | refine blk_drew ?_ | refine blk_alloc ?_ _)); exact BK589.out)) : gb591 ≠ gb589)); clear HO_590000; clear BK583; clear BK584; clear BK589; clear HB; have HO_590000 := n0_; have BK583 := n1_; have BK584 := n2_; have BK589 := n3_; have HB := n4_; have BK591 := n5_; have GW591 := n6_; have GE591 := n7_; have NB583_591 := n8_; have NB591_583 := n9_; have NB584_591 := n10_; have NB591_584 := n11_; have NB589_591 := n12_; have NB591_589 := n13_; clear n0_ n1_ n2_ n3_ n4_ n5_ n6_ n7_ n8_ n9_ n10_ n11_ n12_ n13_; clear hb hbox hg; have hnb40 := NB591_583.out; have hnc40 := NB583_591.out; have hnb41 := NB591_584.out; have hnc41 := NB584_591.out; have hnb42 := NB591_589.out; have hnc42 := NB589_591.out; have hcz43_0 : w39.cell? ⟨gb591, 0, none⟩ = some (.int .i64 0) := (blk_cell BK591.out 0).trans rfl; have hcz43_1 : w39.cell? ⟨gb591, 1, none⟩ = some (.string (⟨#[]⟩ : ByteArray)) := (blk_cell BK591.out 1).trans rfl; have hfz43_0 := blk_frozen BK591.out 0; have hfz43_1 := blk_frozen BK591.out 1) | ((with_reducible refine gate_store (t := 54) (p := 11) rfl ?_); refine store_event (t := 54) (p := 11) (v := ?vo_w44) (w1 := ((w39.setCell ⟨gb591, 0, none⟩ (.int .i64 ((rd_T54 l0_1 x27_2).f0))).setCell ⟨gb591, 1, none⟩ (.string ((rd_T54 l0_1 x27_2).f1)))) ?hg ?ho ?hn ?hr ?_; (case ho => rfl); (case hg => rfl); (case hn => rfl); (case hr => first | (go_simp; done) | (go_simp; rfl)); intro w44 hw; have n0_ : Aside0 (Kd.Q Kd.string 9 w44 w.heap.size (fun _ => True) u590000 x590000_2) := ⟨(by rw [hw]; exact (by (with_reducible repeat (first | apply Kd.Q_alloc | apply Kd.Q_drewN | apply Kd.Q_drew)); exact Kd.Q_mono (Kd.Q_far (p := ⟨gb591, 1, none⟩) (Kd.Q_far (p := ⟨gb591, 0, none⟩) (Kd.Q_types HO_590000.out BK591.out (by decide)) (fun _ hk => hk.2) (.int .i64 ((rd_T54 l0_1 x27_2).f0))) (fun _ hk => hk.2) (.string ((rd_T54 l0_1 x27_2).f1))) (fun _ hk => trivial)))⟩; have n1_ : Aside0 (w44.heap[gb583]? = some (.cells #[.slice A0_0 l0_0.length c0_0, .slice (some ad590) l0_1.length c0_1, .int .i64 a0_2, .int .i64 a0_3] 30 (0, 0))) := ⟨(by rw [hw]; exact (by (with_reducible repeat (first | refine blk_drewN ?_ _ | refine blk_drew ?_ | refine blk_alloc ?_ _)); refine blk_far ?_ NB583_591.out _; (with_reducible repeat (first | refine blk_drewN ?_ _ | refine blk_drew ?_ | refine blk_alloc ?_ _)); refine blk_far ?_ NB583_591.out _; (with_reducible repeat (first | refine blk_drewN ?_ _ | refine blk_drew ?_ | refine blk_alloc ?_ _)); exact BK583.out))⟩; have n2_ : Aside0 (w44.heap[gb584]? = some (.cells #[.slice none 0 0, .slice none 0 0, .int .i64 0, .int .i64 0] 30 (0, 0))) := ⟨(by rw [hw]; exact (by (with_reducible repeat (first | refine blk_drewN ?_ _ | refine blk_drew ?_ | refine blk_alloc ?_ _)); refine blk_far ?_ NB584_591.out _; (with_reducible repeat (first | refine blk_drewN ?_ _ | refine blk_drew ?_ | refine blk_alloc ?_ _)); refine blk_far ?_ NB584_591.out _; (with_reducible repeat (first | refine blk_drewN ?_ _ | refine blk_drew ?_ | refine blk_alloc ?_ _)); exact BK584.out))⟩; have n3_ : Aside0 (w44.heap[gb589]? = some (.cells #[u590000, .slice none 0 0, .int .i64 (-1), .int .i64 (-1)] 30 (0, 0))) := ⟨(by rw [hw]; exact (by (with_reducible repeat (first | refine blk_drewN ?_ _ | refine blk_drew ?_ | refine blk_alloc ?_ _)); refine blk_far ?_ NB589_591.out _; (with_reducible repeat (first | refine blk_drewN ?_ _ | refine blk_drew ?_ | refine blk_alloc ?_ _)); refine blk_far ?_ NB589_591.out _; (with_reducible repeat (first | refine blk_drewN ?_ _ | refine blk_drew ?_ | refine blk_alloc ?_ _)); exact BK589.out))⟩; have n4_ : Aside0 (w44.heap[gb591]? = some (.cells #[.int .i64 ((rd_T54 l0_1 x27_2).f0), .string ((rd_T54 l0_1 x27_2).f1)] 54 (0, 0))) := ⟨(by rw [hw]; exact (by (with_reducible repeat (first | refine blk_drewN ?_ _ | refine blk_drew ?_ | refine blk_alloc ?_ _)); refine blk_put (cs := #[.int .i64 ((rd_T54 l0_1 x27_2).f0), .string (⟨#[]⟩ : ByteArray)]) ?_ 1 _ rfl; (with_reducible repeat (first | refine blk_drewN ?_ _ | refine blk_drew ?_ | refine blk_alloc ?_ _)); refine blk_put (cs := #[.int .i64 0, .string (⟨#[]⟩ : ByteArray)]) ?_ 0 _ rfl; (with_reducible repeat (first | refine blk_drewN ?_ _ | refine blk_drew ?_ | refine blk_alloc ?_ _)); exact BK591.out))⟩; have n5_ : Aside0 (Below w.heap.size w w44) := ⟨(by rw [hw]; exact (by repeat (first | (with_reducible first | exact HB.out | apply below_alloc | apply pw_below_drewN | apply below_drew1 | refine below_set ?_ GE583.out | refine below_set ?_ GE584.out | refine below_set ?_ GE589.out | refine below_set ?_ GE591.out) | exact HB.out)))⟩; clear hw; clear HO_590000; clear BK583; clear BK584; clear BK589; clear BK591; clear HB; have HO_590000 := n0_; have BK583 := n1_; have BK584 := n2_; have BK589 := n3_; have BK591 := n4_; have HB := n5_; clear n0_ n1_ n2_ n3_ n4_ n5_; have hnb45 := NB589_583.out; have hnc45 := NB583_589.out; have hnb46 := NB589_584.out; have hnc46 := NB584_589.out; have hcz47_0 : w44.cell? ⟨gb589, 0, none⟩ = some (u590000) := (blk_cell BK589.out 0).trans rfl; have hcz47_1 : w44.cell? ⟨gb589, 1, none⟩ = some (.slice none 0 0) := (blk_cell BK589.out 1).trans rfl; have hcz47_2 : w44.cell? ⟨gb589, 2, none⟩ = some (.int .i64 (-1)) := (blk_cell BK589.out 2).trans rfl; have hcz47_3 : w44.cell? ⟨gb589, 3, none⟩ = some (.int .i64 (-1)) := (blk_cell BK589.out 3).trans rfl; have hfz47_0 := blk_frozen BK589.out 0; have hfz47_1 := blk_frozen BK589.out 1; have hfz47_2 := blk_frozen BK589.out 2; have hfz47_3 := blk_frozen BK589.out 3; have hcz48_0 : w44.cell? ⟨gb591, 0, none⟩ = some (.int .i64 ((rd_T54 l0_1 x27_2).f0)) := (blk_cell BK591.out 0).trans rfl; have hcz48_1 : w44.cell? ⟨gb591, 1, none⟩ = some (.string ((rd_T54 l0_1 x27_2).f1)) := (blk_cell BK591.out 1).trans rfl; have hfz48_0 := blk_frozen BK591.out 0; have hfz48_1 := blk_frozen BK591.out 1; have p38 : 0 ≤ (((rd_T54 l0_1 x27_2).f0) : Int) := of_decide_eq_true (by first | (with_reducible assumption) | assumption); have q38 : (((rd_T54 l0_1 x27_2).f0) : Int) < ((x590000_2.length : Int) : Int) := of_decide_eq_true (by first | (with_reducible assumption) | assumption); obtain ⟨go38, oo38, co38, eo38, gb38, gl38, cl38, HG38⟩ := Kd.Q_form HO_590000.out (by omega); (first | cases eo38 | (injection eo38 with ea_ en_ ec_; (first | subst ea_ | (injection ea_ with ea_; subst ea_)); subst ec_; clear en_)); have GB38 := Aside0.mk gb38; have GG38 := Aside0.mk HG38; clear gb38 gl38 HG38; obtain ⟨hx38_0, hf38_0⟩ := Kd.Q_cell (⟨#[]⟩ : ByteArray) HO_590000.out (((rd_T54 l0_1 x27_2).f0) : Int) p38 q38; replace p38 := eq_true p38; replace q38 := eq_true q38; obtain ⟨hy49_, hz49_⟩ := Kd.Q_cell (⟨#[]⟩ : ByteArray) HO_590000.out (((rd_T54 l0_1 x27_2).f0) : Int) (of_decide_eq_true (by first | (with_reducible assumption) | assumption)) (of_decide_eq_true (by first | (with_reducible assumption) | assumption)); have HP49 := Kd.Q_putg HO_590000.out (((rd_T54 l0_1 x27_2).f0) : Int) (of_decide_eq_true (by first | (with_reducible assumption) | assumption)) (by have h_ : (((rd_T54 l0_1 x27_2).f0) : Int) < ((x590000_2.length : Int) : Int) := of_decide_eq_true (by first | (with_reducible assumption) | assumption); first | exact h_ | (have e_ := (Kd.Q_reads' HO_590000.out).1; omega) | simpa using h_) ((rd_T54 l0_1 x27_2).f1)) | ((with_reducible refine gate_store (t := 9) (p := 45) rfl ?_); refine store_event (t := 9) (p := 45) (v := ?vo_w50) (w1 := (w44.setCell ⟨go38, oo38 + (((rd_T54 l0_1 x27_2).f0) : Int).toNat, none⟩ (.string ((rd_T54 l0_1 x27_2).f1)))) ?hg ?ho ?hn ?hr ?_; (case ho => rfl); (case hg => rfl); (case hn => rfl); (case hr => first | (go_simp; done) | (go_simp; rfl)); intro w50 hw; have hg : w44.grownBy w50 (some go38) := (by rw [hw]; exact HP49.2); have hp_ : Kd.Q Kd.string 9 w50 w.heap.size (fun _ => True) (.slice (some ⟨go38, oo38, none⟩) x590000_2.length co38) y592 := (by rw [hw, Ny592.out]; exact HP49.1); clear HP49; have n0_ := Aside0.mk (hp_); have n1_ := Aside0.mk (blk_grown (g := gb583) (o := .cells #[.slice A0_0 l0_0.length c0_0, .slice (some ad590) l0_1.length c0_1, .int .i64 a0_2, .int .i64 a0_3] 30 (0, 0)) (by (with_reducible repeat (first | refine blk_drewN ?_ _ | refine blk_drew ?_ | refine blk_alloc ?_ _)); exact BK583.out) hg (Kd.Q_ne HO_590000.out BK583.out (by decide))); have n2_ := Aside0.mk (blk_grown (g := gb584) (o := .cells #[.slice none 0 0, .slice none 0 0, .int .i64 0, .int .i64 0] 30 (0, 0)) (by (with_reducible repeat (first | refine blk_drewN ?_ _ | refine blk_drew ?_ | refine blk_alloc ?_ _)); exact BK584.out) hg (Kd.Q_ne HO_590000.out BK584.out (by decide))); have n3_ := Aside0.mk (blk_grown (g := gb589) (o := .cells #[.slice (some ⟨go38, oo38, none⟩) x590000_2.length co38, .slice none 0 0, .int .i64 (-1), .int .i64 (-1)] 30 (0, 0)) (by (with_reducible repeat (first | refine blk_drewN ?_ _ | refine blk_drew ?_ | refine blk_alloc ?_ _)); exact BK589.out) hg (Kd.Q_ne HO_590000.out BK589.out (by decide))); have n4_ := Aside0.mk (blk_grown (g := gb591) (o := .cells #[.int .i64 ((rd_T54 l0_1 x27_2).f0), .string ((rd_T54 l0_1 x27_2).f1)] 54 (0, 0)) (by (with_reducible repeat (first | refine blk_drewN ?_ _ | refine blk_drew ?_ | refine blk_alloc ?_ _)); exact BK591.out) hg (Kd.Q_ne HO_590000.out BK591.out (by decide))); have n5_ := Aside0.mk ((by rw [hw]; exact below_set (HB.out) GB38.out : Below w.heap.size w w50)); clear HO_590000; clear BK583; clear BK584; clear BK589; clear BK591; clear HB; have HO_590000 := n0_; have BK583 := n1_; have BK584 := n2_; have BK589 := n3_; have BK591 := n4_; have HB := n5_; clear n0_ n1_ n2_ n3_ n4_ n5_; clear hg hw hp_))
                          go_roundg k2
                          case measure => have := HJ4.out; have := HK2.out; omega
                          case rel => exact ⟨(wrap64 (x27_2 + 1)), (y592), (.slice (some ⟨go38, oo38, none⟩) x590000_2.length co38), (by first | rfl | (simp; done) | (simp [*]; done)), H', ⟨by have := HJ4.out; have := HK2.out; omega⟩, ⟨by (with_reducible repeat (first | apply Kd.Q_alloc | apply Kd.Q_drewN | apply Kd.Q_drew)); exact HO_590000.out⟩, ⟨by (with_reducible repeat (first | refine blk_drewN ?_ _ | refine blk_drew ?_ | refine blk_alloc ?_ _)); exact BK583.out⟩, ⟨by (with_reducible repeat (first | refine blk_drewN ?_ _ | refine blk_drew ?_ | refine blk_alloc ?_ _)); exact BK584.out⟩, ⟨by (with_reducible repeat (first | refine blk_drewN ?_ _ | refine blk_drew ?_ | refine blk_alloc ?_ _)); exact BK589.out⟩, ⟨by repeat (first | (with_reducible first | exact HB.out | apply below_alloc | apply pw_below_drewN | apply below_drew1 | refine below_set ?_ GE583.out | refine below_set ?_ GE584.out | refine below_set ?_ GE589.out | refine below_set ?_ GE591.out) | exact HB.out)⟩⟩
                        · rw [if_neg c37] at H
                          exact absurd H (by simp)
                      · rw [if_neg c36] at H
                        exact absurd H (by simp)
                    · rw [if_neg c35] at H
                      have c35b0 : ((Go.bits .and .i64 (ji34) 1) == 1) = false := beq_eq_false_iff_ne.mpr c35
                      have c35b1 : ((Go.bits .and .i64 (ji34) 1) != 1) = true := bne_iff_ne.mpr c35
                      by_cases c51 : x27_2 = a2
                      · rw [if_pos c51] at H
                        have c51b0 : (x27_2 == a2) = true := beq_iff_eq.mpr c51
                        have c51b1 : (x27_2 != a2) = false := bne_eq_false_iff_eq.mpr c51
                        clear c51
                        by_cases c52 : 0 ≤ ((rd_T54 l0_1 x27_2).f0)
                        · rw [if_pos c52] at H
                          have c52b0 : decide (0 ≤ ((rd_T54 l0_1 x27_2).f0)) = true := decide_eq_true c52
                          clear c52
                          by_cases c53 : ((rd_T54 l0_1 x27_2).f0) < (x590000_2.length : Int)
                          · rw [if_pos c53] at H
                            have c53b0 : decide (((rd_T54 l0_1 x27_2).f0) < (x590000_2.length : Int)) = true := decide_eq_true c53
                            clear c53
                            replace H := Option.bind_eq_some_iff.mp H
                            obtain ⟨t594, A540, H⟩ := H
                            replace H : (impl_DiskCrash.l0 k2 a1 a2 a3 l0_1 (l0_1.length : Int) (wrap64 (x27_2 + 1)) (x590000_2.set (((rd_T54 l0_1 x27_2).f0) : Int).toNat t594) (-1) (-1)) = some (r1, r2, r3, r4) := H
                            have A54 := Aside0.mk A540
                            clear A540
                            obtain ⟨y595, hy595⟩ : ∃ y_ : List ByteArray, y_ = (x590000_2.set (((rd_T54 l0_1 x27_2).f0) : Int).toNat t594) := ⟨_, rfl⟩
                            replace H : (impl_DiskCrash.l0 k2 a1 a2 a3 l0_1 (l0_1.length : Int) (wrap64 (x27_2 + 1)) y595 (-1) (-1)) = some (r1, r2, r3, r4) := by first | (rw [hy595]; with_reducible exact H) | (have H2_ := (Option.bind_some _ _).symm.trans H; rw [hy595]; with_reducible exact H2_) | (have H2_ := (Option.bind_some _ _).symm.trans H; with_reducible exact H2_) | with_reducible exact H | (rw [hy595]; exact H) | exact H
                            have Ny595 := Aside0.mk hy595
                            clear hy595
                            have H' := Aside0.mk H
                            clear H
                            have p590 : 0 ≤ (x27_2 : Int) := of_decide_eq_true (by first | (with_reducible assumption) | assumption)
                            have q590 : x27_2 < (l0_1.length : Int) := of_decide_eq_true (by first | (with_reducible assumption) | assumption)
                            obtain ⟨ad590, e590, hx590_0, hx590_1⟩ := at_T54 HR0_1.out x27_2 p590 q590
                            cases e590
                            replace hx590_0 := (HB.out.cell (World.block_lt_of_cell? w _ hx590_0)).trans hx590_0
                            replace hx590_1 := (HB.out.cell (World.block_lt_of_cell? w _ hx590_1)).trans hx590_1
                            replace p590 := eq_true p590
                            replace q590 := eq_true q590
                            try go_wp2_with (first | ((with_reducible refine gate_dst (N := 11) rfl ?_); refine box_event ?hg (N := 11) ?hd (cs := #[.int .i64 0, .string (⟨#[]⟩ : ByteArray)]) (t := 54) ?hr ?_; (case hd => rfl); (case hg => rfl); (case hr => first | (go_simp; done) | (go_simp; rfl)); intro gb591 hg w56 hbox hb; have n0_ := Aside0.mk (Kd.Q_below (by (with_reducible repeat (first | apply Kd.Q_alloc | apply Kd.Q_drewN | apply Kd.Q_drew)); exact HO_590000.out) hb); have n1_ := Aside0.mk (blk_below (g := gb583) (o := .cells #[.slice A0_0 l0_0.length c0_0, .slice (some ad590) l0_1.length c0_1, .int .i64 a0_2, .int .i64 a0_3] 30 (0, 0)) (by (with_reducible repeat (first | refine blk_drewN ?_ _ | refine blk_drew ?_ | refine blk_alloc ?_ _)); exact BK583.out) hb); have n2_ := Aside0.mk (blk_below (g := gb584) (o := .cells #[.slice none 0 0, .slice none 0 0, .int .i64 0, .int .i64 0] 30 (0, 0)) (by (with_reducible repeat (first | refine blk_drewN ?_ _ | refine blk_drew ?_ | refine blk_alloc ?_ _)); exact BK584.out) hb); have n3_ := Aside0.mk (blk_below (g := gb589) (o := .cells #[u590000, .slice none 0 0, .int .i64 (-1), .int .i64 (-1)] 30 (0, 0)) (by (with_reducible repeat (first | refine blk_drewN ?_ _ | refine blk_drew ?_ | refine blk_alloc ?_ _)); exact BK589.out) hb); have n4_ := Aside0.mk (below_step (by repeat (first | (with_reducible first | exact HB.out | apply below_alloc | apply pw_below_drewN | apply below_drew1 | refine below_set ?_ GE583.out | refine below_set ?_ GE584.out | refine below_set ?_ GE589.out) | exact HB.out)) hb); have n5_ := Aside0.mk (hbox); have n6_ := Aside0.mk ((by rw [hg]; exact (below_size (by repeat (first | (with_reducible first | exact HB.out | apply below_alloc | apply pw_below_drewN | apply below_drew1 | refine below_set ?_ GE583.out | refine below_set ?_ GE584.out | refine below_set ?_ GE589.out) | exact HB.out))) : w.heap.size ≤ gb591)); have n7_ := Aside0.mk ((by rw [hg]; exact (below_size (by repeat (first | (with_reducible first | exact HB.out | apply below_alloc | apply pw_below_drewN | apply below_drew1 | refine below_set ?_ GE583.out | refine below_set ?_ GE584.out | refine below_set ?_ GE589.out) | exact HB.out))) : w.heap.size ≤ gb591)); have n8_ := Aside0.mk ((by rw [hg]; exact Nat.ne_of_lt (blk_lt (g := gb583) (o := .cells #[.slice A0_0 l0_0.length c0_0, .slice (some ad590) l0_1.length c0_1, .int .i64 a0_2, .int .i64 a0_3] 30 (0, 0)) (by (with_reducible repeat (first | refine blk_drewN ?_ _ | refine blk_drew ?_ | refine blk_alloc ?_ _)); exact BK583.out)) : gb583 ≠ gb591)); have n9_ := Aside0.mk ((by rw [hg]; exact Nat.ne_of_gt (blk_lt (g := gb583) (o := .cells #[.slice A0_0 l0_0.length c0_0, .slice (some ad590) l0_1.length c0_1, .int .i64 a0_2, .int .i64 a0_3] 30 (0, 0)) (by (with_reducible repeat (first | refine blk_drewN ?_ _ | refine blk_drew ?_ | refine blk_alloc ?_ _)); exact BK583.out)) : gb591 ≠ gb583)); have n10_ := Aside0.mk ((by rw [hg]; exact Nat.ne_of_lt (blk_lt (g := gb584) (o := .cells #[.slice none 0 0, .slice none 0 0, .int .i64 0, .int .i64 0] 30 (0, 0)) (by (with_reducible repeat (first | refine blk_drewN ?_ _ | refine blk_drew ?_ | refine blk_alloc ?_ _)); exact BK584.out)) : gb584 ≠ gb591)); have n11_ := Aside0.mk ((by rw [hg]; exact Nat.ne_of_gt (blk_lt (g := gb584) (o := .cells #[.slice none 0 0, .slice none 0 0, .int .i64 0, .int .i64 0] 30 (0, 0)) (by (with_reducible repeat (first | refine blk_drewN ?_ _ | refine blk_drew ?_ | refine blk_alloc ?_ _)); exact BK584.out)) : gb591 ≠ gb584)); have n12_ := Aside0.mk ((by rw [hg]; exact Nat.ne_of_lt (blk_lt (g := gb589) (o := .cells #[u590000, .slice none 0 0, .int .i64 (-1), .int .i64 (-1)] 30 (0, 0)) (by (with_reducible repeat (first | refine blk_drewN ?_ _ | refine blk_drew ?_ | refine blk_alloc ?_ _)); exact BK589.out)) : gb589 ≠ gb591)); have n13_ := Aside0.mk ((by rw [hg]; exact Nat.ne_of_gt (blk_lt (g := gb589) (o := .cells #[u590000, .slice none 0 0, .int .i64 (-1), .int .i64 (-1)] 30 (0, 0)) (by (with_reducible repeat (first | refine blk_drewN ?_ _ | refine blk_drew ?_ | refine blk_alloc ?_ _)); exact BK589.out)) : gb591 ≠ gb589)); clear HO_590000; clear BK583; clear BK584; clear BK589; clear HB; have HO_590000 := n0_; have BK583 := n1_; have BK584 := n2_; have BK589 := n3_; have HB := n4_; have BK591 := n5_; have GW591 := n6_; have GE591 := n7_; have NB583_591 := n8_; have NB591_583 := n9_; have NB584_591 := n10_; have NB591_584 := n11_; have NB589_591 := n12_; have NB591_589 := n13_; clear n0_ n1_ n2_ n3_ n4_ n5_ n6_ n7_ n8_ n9_ n10_ n11_ n12_ n13_; clear hb hbox hg; have hnb57 := NB591_583.out; have hnc57 := NB583_591.out; have hnb58 := NB591_584.out; have hnc58 := NB584_591.out; have hnb59 := NB591_589.out; have hnc59 := NB589_591.out; have hcz60_0 : w56.cell? ⟨gb591, 0, none⟩ = some (.int .i64 0) := (blk_cell BK591.out 0).trans rfl; have hcz60_1 : w56.cell? ⟨gb591, 1, none⟩ = some (.string (⟨#[]⟩ : ByteArray)) := (blk_cell BK591.out 1).trans rfl; have hfz60_0 := blk_frozen BK591.out 0; have hfz60_1 := blk_frozen BK591.out 1))
                            have n0_ : Aside0 (Kd.Q Kd.string 9 ((w56.setCell ⟨gb591, 0, none⟩ (.int .i64 ((rd_T54 l0_1 x27_2).f0))).setCell ⟨gb591, 1, none⟩ (.string ((rd_T54 l0_1 x27_2).f1))) w.heap.size (fun _ => True) u590000 x590000_2) := ⟨by (with_reducible repeat (first | apply Kd.Q_alloc | apply Kd.Q_drewN | apply Kd.Q_drew)); exact Kd.Q_mono (Kd.Q_far (p := ⟨gb591, 1, none⟩) (Kd.Q_far (p := ⟨gb591, 0, none⟩) (Kd.Q_types HO_590000.out BK591.out (by decide)) (fun _ hk => hk.2) (.int .i64 ((rd_T54 l0_1 x27_2).f0))) (fun _ hk => hk.2) (.string ((rd_T54 l0_1 x27_2).f1))) (fun _ hk => trivial)⟩
                            have n1_ : Aside0 (((w56.setCell ⟨gb591, 0, none⟩ (.int .i64 ((rd_T54 l0_1 x27_2).f0))).setCell ⟨gb591, 1, none⟩ (.string ((rd_T54 l0_1 x27_2).f1))).heap[gb583]? = some (.cells #[.slice A0_0 l0_0.length c0_0, .slice (some ad590) l0_1.length c0_1, .int .i64 a0_2, .int .i64 a0_3] 30 (0, 0))) := ⟨by (with_reducible repeat (first | refine blk_drewN ?_ _ | refine blk_drew ?_ | refine blk_alloc ?_ _)); refine blk_far ?_ NB583_591.out _; (with_reducible repeat (first | refine blk_drewN ?_ _ | refine blk_drew ?_ | refine blk_alloc ?_ _)); refine blk_far ?_ NB583_591.out _; (with_reducible repeat (first | refine blk_drewN ?_ _ | refine blk_drew ?_ | refine blk_alloc ?_ _)); exact BK583.out⟩
                            have n2_ : Aside0 (((w56.setCell ⟨gb591, 0, none⟩ (.int .i64 ((rd_T54 l0_1 x27_2).f0))).setCell ⟨gb591, 1, none⟩ (.string ((rd_T54 l0_1 x27_2).f1))).heap[gb584]? = some (.cells #[.slice none 0 0, .slice none 0 0, .int .i64 0, .int .i64 0] 30 (0, 0))) := ⟨by (with_reducible repeat (first | refine blk_drewN ?_ _ | refine blk_drew ?_ | refine blk_alloc ?_ _)); refine blk_far ?_ NB584_591.out _; (with_reducible repeat (first | refine blk_drewN ?_ _ | refine blk_drew ?_ | refine blk_alloc ?_ _)); refine blk_far ?_ NB584_591.out _; (with_reducible repeat (first | refine blk_drewN ?_ _ | refine blk_drew ?_ | refine blk_alloc ?_ _)); exact BK584.out⟩
                            have n3_ : Aside0 (((w56.setCell ⟨gb591, 0, none⟩ (.int .i64 ((rd_T54 l0_1 x27_2).f0))).setCell ⟨gb591, 1, none⟩ (.string ((rd_T54 l0_1 x27_2).f1))).heap[gb589]? = some (.cells #[u590000, .slice none 0 0, .int .i64 (-1), .int .i64 (-1)] 30 (0, 0))) := ⟨by (with_reducible repeat (first | refine blk_drewN ?_ _ | refine blk_drew ?_ | refine blk_alloc ?_ _)); refine blk_far ?_ NB589_591.out _; (with_reducible repeat (first | refine blk_drewN ?_ _ | refine blk_drew ?_ | refine blk_alloc ?_ _)); refine blk_far ?_ NB589_591.out _; (with_reducible repeat (first | refine blk_drewN ?_ _ | refine blk_drew ?_ | refine blk_alloc ?_ _)); exact BK589.out⟩
                            have n4_ : Aside0 (((w56.setCell ⟨gb591, 0, none⟩ (.int .i64 ((rd_T54 l0_1 x27_2).f0))).setCell ⟨gb591, 1, none⟩ (.string ((rd_T54 l0_1 x27_2).f1))).heap[gb591]? = some (.cells #[.int .i64 ((rd_T54 l0_1 x27_2).f0), .string ((rd_T54 l0_1 x27_2).f1)] 54 (0, 0))) := ⟨by (with_reducible repeat (first | refine blk_drewN ?_ _ | refine blk_drew ?_ | refine blk_alloc ?_ _)); refine blk_put (cs := #[.int .i64 ((rd_T54 l0_1 x27_2).f0), .string (⟨#[]⟩ : ByteArray)]) ?_ 1 _ rfl; (with_reducible repeat (first | refine blk_drewN ?_ _ | refine blk_drew ?_ | refine blk_alloc ?_ _)); refine blk_put (cs := #[.int .i64 0, .string (⟨#[]⟩ : ByteArray)]) ?_ 0 _ rfl; (with_reducible repeat (first | refine blk_drewN ?_ _ | refine blk_drew ?_ | refine blk_alloc ?_ _)); exact BK591.out⟩
                            have n5_ : Aside0 (Below w.heap.size w ((w56.setCell ⟨gb591, 0, none⟩ (.int .i64 ((rd_T54 l0_1 x27_2).f0))).setCell ⟨gb591, 1, none⟩ (.string ((rd_T54 l0_1 x27_2).f1)))) := ⟨by repeat (first | (with_reducible first | exact HB.out | apply below_alloc | apply pw_below_drewN | apply below_drew1 | refine below_set ?_ GE583.out | refine below_set ?_ GE584.out | refine below_set ?_ GE589.out | refine below_set ?_ GE591.out) | exact HB.out)⟩
                            (try clear HO_590000)
                            (try clear BK583)
                            (try clear BK584)
                            (try clear BK589)
                            (try clear BK591)
                            (try clear HB)
                            generalize ((w56.setCell ⟨gb591, 0, none⟩ (.int .i64 ((rd_T54 l0_1 x27_2).f0))).setCell ⟨gb591, 1, none⟩ (.string ((rd_T54 l0_1 x27_2).f1))) = w61 at n0_ n1_ n2_ n3_ n4_ n5_ ⊢
                            have HO_590000 := n0_
                            have BK583 := n1_
                            have BK584 := n2_
                            have BK589 := n3_
                            have BK591 := n4_
                            have HB := n5_
                            clear n0_ n1_ n2_ n3_ n4_ n5_
                            have n0_ := Aside0.mk (Kd.Q_drew HO_590000.out)
                            have n1_ := Aside0.mk (blk_drew BK583.out)
                            have n2_ := Aside0.mk (blk_drew BK584.out)
                            have n3_ := Aside0.mk (blk_drew BK589.out)
                            have n4_ := Aside0.mk (blk_drew BK591.out)
                            have n5_ := Aside0.mk (below_drew1 HB.out)
                            clear HO_590000
                            clear BK583
                            clear BK584
                            clear BK589
                            clear BK591
                            clear HB
                            have HO_590000 := n0_
                            have BK583 := n1_
                            have BK584 := n2_
                            have BK589 := n3_
                            have BK591 := n4_
                            have HB := n5_
                            clear n0_ n1_ n2_ n3_ n4_ n5_
                            obtain ⟨Ao63, co63, eo63, _⟩ := Kd.Q_slice HO_590000.out
                            (first | subst eo63 | (injection eo63 with f1_ f2_ f3_; have f4_ := f1_.symm; have f5_ := f3_.symm; clear f1_ f2_ f3_; subst f4_; subst f5_))
                            have p593 : 0 ≤ (((rd_T54 l0_1 x27_2).f0) : Int) := of_decide_eq_true (by first | (with_reducible assumption) | assumption)
                            have q593 : ((rd_T54 l0_1 x27_2).f0) < (x590000_2.length : Int) := of_decide_eq_true (by first | (with_reducible assumption) | assumption)
                            obtain ⟨ad593, e593, hx593_0⟩ := Kd.at_string (Kd.Q_reads' HO_590000.out).2.2 ((rd_T54 l0_1 x27_2).f0) p593 q593
                            cases e593
                            replace p593 := eq_true p593
                            replace q593 := eq_true q593
                            refine start_ (n := 16) (S := fun w' => w'.cell? ⟨gb589, 0, none⟩ = some (.slice (some ad593) x590000_2.length co63) ∧ w'.cell? ⟨gb589, 1, none⟩ = some (.slice none 0 0) ∧ w'.cell? ⟨gb589, 2, none⟩ = some (.int .i64 (-1)) ∧ w'.cell? ⟨gb589, 3, none⟩ = some (.int .i64 (-1)) ∧ w'.cell? ⟨gb591, 0, none⟩ = some (.int .i64 ((rd_T54 l0_1 x27_2).f0)) ∧ w'.cell? ⟨gb591, 1, none⟩ = some (.string ((rd_T54 l0_1 x27_2).f1)) ∧ w'.cell? (ad593.add (((rd_T54 l0_1 x27_2).f0)).toNat) = some (.string (rdOf ByteArray.empty x590000_2 ((rd_T54 l0_1 x27_2).f0)))) (ds := [15]) #[false, false, false, false, false, false, false, false, false, false, false, false, false, false, false, false] (by kernel_rfl) rfl rfl ⟨(blk_cell BK589.out 0).trans rfl, (blk_cell BK589.out 1).trans rfl, (blk_cell BK589.out 2).trans rfl, (blk_cell BK589.out 3).trans rfl, (blk_cell BK591.out 0).trans rfl, (blk_cell BK591.out 1).trans rfl, hx593_0⟩ (fun hHeld => ?_); refine with_tabW impl_DiskCrash.tab10 impl_DiskCrash.bits10 (fun HT_ HW_ => ?_)
                            generalize w61.drew = w62 at HO_590000 BK583 BK584 BK589 BK591 HB hx593_0 hHeld ⊢
                            refine pure_ (i := 0) (N := some 50) (v := ?_) (a' := ?_) #[true, false, false, false, false, false, false, false, false, false, false, false, false, false, false, false] rfl rfl (any_of HT_.out (by kernel_rfl)) (fun _ _ _ h => h) (Or.inl ⟨by rfl, ?_⟩) ?_ ?_
                            rotate_left
                            · intro w'
                              go_simp
                              with_reducible rfl
                            rotate_left
                            · simp only [Act.put, List.setIfInBounds_toArray, List.set_cons_zero, List.set_cons_succ, i64_w, i32_w]
                              rfl
                            refine pure_ (i := 2) (N := some 52) (v := ?_) (a' := ?_) #[true, false, true, false, false, false, false, false, false, false, false, false, false, false, false, false] rfl rfl (any_of HT_.out (by kernel_rfl)) (fun _ _ _ h => h) (Or.inl ⟨by rfl, ?_⟩) ?_ ?_
                            rotate_left
                            · intro w'
                              go_simp
                              with_reducible rfl
                            rotate_left
                            · simp only [Act.put, List.setIfInBounds_toArray, List.set_cons_zero, List.set_cons_succ, i64_w, i32_w]
                              rfl
                            refine pure_ (i := 4) (N := some 54) (v := ?_) (a' := ?_) #[true, false, true, false, true, false, false, false, false, false, false, false, false, false, false, false] rfl rfl (any_of HT_.out (by kernel_rfl)) (fun _ _ _ h => h) (Or.inl ⟨by rfl, ?_⟩) ?_ ?_
                            rotate_left
                            · intro w'
                              go_simp
                              with_reducible rfl
                            rotate_left
                            · simp only [Act.put, List.setIfInBounds_toArray, List.set_cons_zero, List.set_cons_succ, i64_w, i32_w]
                              rfl
                            refine pure_ (i := 6) (N := some 56) (v := ?_) (a' := ?_) #[true, false, true, false, true, false, true, false, false, false, false, false, false, false, false, false] rfl rfl (any_of HT_.out (by kernel_rfl)) (fun _ _ _ h => h) (Or.inl ⟨by rfl, ?_⟩) ?_ ?_
                            rotate_left
                            · intro w'
                              go_simp
                              with_reducible rfl
                            rotate_left
                            · simp only [Act.put, List.setIfInBounds_toArray, List.set_cons_zero, List.set_cons_succ, i64_w, i32_w]
                              rfl
                            refine pure_ (i := 10) (N := some 60) (v := ?_) (a' := ?_) #[true, false, true, false, true, false, true, false, false, false, true, false, false, false, false, false] rfl rfl (any_of HT_.out (by kernel_rfl)) (fun _ _ _ h => h) (Or.inl ⟨by rfl, ?_⟩) ?_ ?_
                            rotate_left
                            · intro w'
                              go_simp
                              with_reducible rfl
                            rotate_left
                            · simp only [Act.put, List.setIfInBounds_toArray, List.set_cons_zero, List.set_cons_succ, i64_w, i32_w]
                              rfl
                            refine pure_ (i := 12) (N := some 62) (v := ?_) (a' := ?_) #[true, false, true, false, true, false, true, false, false, false, true, false, true, false, false, false] rfl rfl (any_of HT_.out (by kernel_rfl)) (fun _ _ _ h => h) (Or.inl ⟨by rfl, ?_⟩) ?_ ?_
                            rotate_left
                            · intro w'
                              go_simp
                              with_reducible rfl
                            rotate_left
                            · simp only [Act.put, List.setIfInBounds_toArray, List.set_cons_zero, List.set_cons_succ, i64_w, i32_w]
                              rfl
                            refine take_ (i := 1) (N := some 51) (v := ?_) (a' := ?_) #[true, true, true, false, true, false, true, false, false, false, true, false, true, false, false, false] rfl rfl (take_ofW HT_.out HW_.out (by kernel_rfl)) (fun _ _ _ h => h) (Or.inl ⟨by rfl, ?_⟩) hHeld ?_ ?_
                            rotate_left
                            · rintro w' ⟨s0, s1, s2, s3, s4, s5, s6⟩
                              go_simp
                              with_reducible rfl
                            rotate_left
                            · simp only [Act.put, List.setIfInBounds_toArray, List.set_cons_zero, List.set_cons_succ, i64_w, i32_w]
                              rfl
                            refine take_ (i := 3) (N := some 53) (v := ?_) (a' := ?_) #[true, true, true, true, true, false, true, false, false, false, true, false, true, false, false, false] rfl rfl (take_ofW HT_.out HW_.out (by kernel_rfl)) (fun _ _ _ h => h) (Or.inl ⟨by rfl, ?_⟩) hHeld ?_ ?_
                            rotate_left
                            · rintro w' ⟨s0, s1, s2, s3, s4, s5, s6⟩
                              go_simp
                              with_reducible rfl
                            rotate_left
                            · simp only [Act.put, List.setIfInBounds_toArray, List.set_cons_zero, List.set_cons_succ, i64_w, i32_w]
                              rfl
                            refine take_ (i := 5) (N := some 55) (v := ?_) (a' := ?_) #[true, true, true, true, true, true, true, false, false, false, true, false, true, false, false, false] rfl rfl (take_ofW HT_.out HW_.out (by kernel_rfl)) (fun _ _ _ h => h) (Or.inl ⟨by rfl, ?_⟩) hHeld ?_ ?_
                            rotate_left
                            · rintro w' ⟨s0, s1, s2, s3, s4, s5, s6⟩
                              go_simp
                              with_reducible rfl
                            rotate_left
                            · simp only [Act.put, List.setIfInBounds_toArray, List.set_cons_zero, List.set_cons_succ, i64_w, i32_w]
                              rfl
                            refine take_ (i := 7) (N := some 57) (v := ?_) (a' := ?_) #[true, true, true, true, true, true, true, true, false, false, true, false, true, false, false, false] rfl rfl (take_ofW HT_.out HW_.out (by kernel_rfl)) (fun _ _ _ h => h) (Or.inl ⟨by rfl, ?_⟩) hHeld ?_ ?_
                            rotate_left
                            · rintro w' ⟨s0, s1, s2, s3, s4, s5, s6⟩
                              go_simp
                              with_reducible rfl
                            rotate_left
                            · simp only [Act.put, List.setIfInBounds_toArray, List.set_cons_zero, List.set_cons_succ, i64_w, i32_w]
                              rfl
                            refine pure_ (i := 8) (N := some 58) (v := ?_) (a' := ?_) #[true, true, true, true, true, true, true, true, true, false, true, false, true, false, false, false] rfl rfl (any_of HT_.out (by kernel_rfl)) (fun _ _ _ h => h) (Or.inl ⟨by rfl, ?_⟩) ?_ ?_
                            rotate_left
                            · intro w'
                              go_simp
                              with_reducible rfl
                            rotate_left
                            · simp only [Act.put, List.setIfInBounds_toArray, List.set_cons_zero, List.set_cons_succ, i64_w, i32_w]
                              rfl
                            refine take_ (i := 9) (N := some 59) (v := ?_) (a' := ?_) #[true, true, true, true, true, true, true, true, true, true, true, false, true, false, false, false] rfl rfl (take_ofW HT_.out HW_.out (by kernel_rfl)) (fun _ _ _ h => h) (Or.inl ⟨by rfl, ?_⟩) hHeld ?_ ?_
                            rotate_left
                            · rintro w' ⟨s0, s1, s2, s3, s4, s5, s6⟩
                              go_simp
                              with_reducible rfl
                            rotate_left
                            · simp only [Act.put, List.setIfInBounds_toArray, List.set_cons_zero, List.set_cons_succ, i64_w, i32_w]
                              rfl
                            refine take_ (i := 11) (N := some 61) (v := ?_) (a' := ?_) #[true, true, true, true, true, true, true, true, true, true, true, true, true, false, false, false] rfl rfl (take_ofW HT_.out HW_.out (by kernel_rfl)) (fun _ _ _ h => h) (Or.inl ⟨by rfl, ?_⟩) hHeld ?_ ?_
                            rotate_left
                            · rintro w' ⟨s0, s1, s2, s3, s4, s5, s6⟩
                              go_simp
                              with_reducible rfl
                            rotate_left
                            · simp only [Act.put, List.setIfInBounds_toArray, List.set_cons_zero, List.set_cons_succ, i64_w, i32_w]
                              rfl
                            refine one_ (i := 13) (N := some 63) #[true, true, true, true, true, true, true, true, true, true, true, true, true, true, false, false] rfl rfl (one_of HT_.out (by kernel_rfl)) (by decide) (fun K hK => ?_)
                            refine goes_ Try.func81 (by kernel_rfl) rfl #[.string (rdOf ByteArray.empty x590000_2 ((rd_T54 l0_1 x27_2).f0)), .string ((rd_T54 l0_1 x27_2).f1), .int .i64 a3] (by rfl) rfl rfl (by (try simp only [List.map_toArray, List.map_cons, List.map_nil]); first | done | rfl | (simp only [List.length_drop, List.length_take]; rfl)) ?_
                            with_reducible refine (impl_torn.calls (rdOf ByteArray.empty x590000_2 ((rd_T54 l0_1 x27_2).f0)) ((rd_T54 l0_1 x27_2).f1) a3 t594 _ A54.out).mono ?_
                            rintro e w64 ⟨rfl, hb⟩
                            have HS6_ := (hb.cell (World.block_lt_of_cell? _ _ (hHeld.2.2.2.2.2.2))).trans (hHeld.2.2.2.2.2.2)
                            refine ⟨_, rfl, ?_⟩
                            have n0_ := Aside0.mk (Kd.Q_below (by (with_reducible repeat (first | apply Kd.Q_alloc | apply Kd.Q_drewN | apply Kd.Q_drew)); exact HO_590000.out) hb)
                            have n1_ := Aside0.mk (blk_below (g := gb583) (o := .cells #[.slice A0_0 l0_0.length c0_0, .slice (some ad590) l0_1.length c0_1, .int .i64 a0_2, .int .i64 a0_3] 30 (0, 0)) (by (with_reducible repeat (first | refine blk_drewN ?_ _ | refine blk_drew ?_ | refine blk_alloc ?_ _)); exact BK583.out) hb)
                            have n2_ := Aside0.mk (blk_below (g := gb584) (o := .cells #[.slice none 0 0, .slice none 0 0, .int .i64 0, .int .i64 0] 30 (0, 0)) (by (with_reducible repeat (first | refine blk_drewN ?_ _ | refine blk_drew ?_ | refine blk_alloc ?_ _)); exact BK584.out) hb)
                            have n3_ := Aside0.mk (blk_below (g := gb589) (o := .cells #[.slice (some ad593) x590000_2.length co63, .slice none 0 0, .int .i64 (-1), .int .i64 (-1)] 30 (0, 0)) (by (with_reducible repeat (first | refine blk_drewN ?_ _ | refine blk_drew ?_ | refine blk_alloc ?_ _)); exact BK589.out) hb)
                            have n4_ := Aside0.mk (blk_below (g := gb591) (o := .cells #[.int .i64 ((rd_T54 l0_1 x27_2).f0), .string ((rd_T54 l0_1 x27_2).f1)] 54 (0, 0)) (by (with_reducible repeat (first | refine blk_drewN ?_ _ | refine blk_drew ?_ | refine blk_alloc ?_ _)); exact BK591.out) hb)
                            have n5_ := Aside0.mk (below_step (by repeat (first | (with_reducible first | exact HB.out | apply below_alloc | apply pw_below_drewN | apply below_drew1 | refine below_set ?_ GE583.out | refine below_set ?_ GE584.out | refine below_set ?_ GE589.out | refine below_set ?_ GE591.out) | exact HB.out)) hb)
                            clear HO_590000
                            clear BK583
                            clear BK584
                            clear BK589
                            clear BK591
                            clear HB
                            have HO_590000 := n0_
                            have BK583 := n1_
                            have BK584 := n2_
                            have BK589 := n3_
                            have BK591 := n4_
                            have HB := n5_
                            clear n0_ n1_ n2_ n3_ n4_ n5_
                            (try clear hb)
                            (try clear hb2)
                            (try clear hk)
                            (try clear hi)
                            have p55 : 0 ≤ (((rd_T54 l0_1 x27_2).f0) : Int) := of_decide_eq_true (by first | (with_reducible assumption) | assumption)
                            have q55 : (((rd_T54 l0_1 x27_2).f0) : Int) < ((x590000_2.length : Int) : Int) := of_decide_eq_true (by first | (with_reducible assumption) | assumption)
                            obtain ⟨go55, oo55, co55, eo55, gb55, gl55, cl55, HG55⟩ := Kd.Q_form HO_590000.out (by omega)
                            (first | cases eo55 | (injection eo55 with ea_ en_ ec_; (first | subst ea_ | (injection ea_ with ea_; subst ea_)); subst ec_; clear en_))
                            have GB55 := Aside0.mk gb55
                            have GG55 := Aside0.mk HG55
                            clear gb55 gl55 HG55
                            (first | simp only [add_at] at hx593_0 | skip)
                            obtain ⟨hx55_0, hf55_0⟩ := Kd.Q_cell (⟨#[]⟩ : ByteArray) HO_590000.out (((rd_T54 l0_1 x27_2).f0) : Int) p55 q55
                            replace p55 := eq_true p55
                            replace q55 := eq_true q55
                            have HP65 := (Kd.Q_putg HO_590000.out (((rd_T54 l0_1 x27_2).f0) : Int) (of_decide_eq_true (by first | (with_reducible assumption) | assumption)) (by have h_ : (((rd_T54 l0_1 x27_2).f0) : Int) < ((x590000_2.length : Int) : Int) := of_decide_eq_true (by first | (with_reducible assumption) | assumption); first | exact h_ | (have e_ := (Kd.Q_reads' HO_590000.out).1; omega) | simpa using h_) t594).1
                            rw [← Ny595.out] at HP65
                            have HQ65 := Aside0.mk HP65
                            clear HP65
                            refine hK.out _ _ ⟨(blk_cell BK589.out 0).trans rfl, (blk_cell BK589.out 1).trans rfl, (blk_cell BK589.out 2).trans rfl, (blk_cell BK589.out 3).trans rfl, (blk_cell BK591.out 0).trans rfl, (blk_cell BK591.out 1).trans rfl, HS6_⟩ (fun hHeld => ?_)
                            clear hK K
                            refine norm_ (a' := ?_) ?_ ?_
                            rotate_left
                            · show Act.put _ (some 63) _ = _
                              simp only [Act.put, List.setIfInBounds_toArray, List.set_cons_zero, List.set_cons_succ, i64_w, i32_w]
                              rfl
                            refine pure_ (i := 14) (N := some 64) (v := ?_) (a' := ?_) #[true, true, true, true, true, true, true, true, true, true, true, true, true, true, true, false] rfl rfl (any_of HT_.out (by kernel_rfl)) (fun _ _ _ h => h) (Or.inl ⟨by rfl, ?_⟩) ?_ ?_
                            rotate_left
                            · intro w'
                              go_simp
                              with_reducible rfl
                            rotate_left
                            · simp only [Act.put, List.setIfInBounds_toArray, List.set_cons_zero, List.set_cons_succ, i64_w, i32_w]
                              rfl
                            refine last_ (i := 15) (N := none) #[true, true, true, true, true, true, true, true, true, true, true, true, true, true, true, true] rfl rfl (one_of HT_.out (by kernel_rfl)) (by decide) (fun K hK => ?_)
                            refine skip_ (w1 := ?_) (by rfl) rfl ?_ ?_
                            rotate_left
                            · go_simp
                              rfl
                            refine hK.out _ _ ?_
                            clear hK K
                            refine done_ (done_of HT_.out (by kernel_rfl)) ?_
                            try go_wp2
                            go_roundg k2
                            case measure => have := HJ4.out; have := HK2.out; omega
                            case rel => exact ⟨(wrap64 (x27_2 + 1)), (y595), (.slice (some ⟨go55, oo55, none⟩) x590000_2.length co63), (by first | rfl | (simp; done) | (simp [*]; done)), H', ⟨by have := HJ4.out; have := HK2.out; omega⟩, ⟨by (with_reducible repeat (first | apply Kd.Q_alloc | apply Kd.Q_drewN | apply Kd.Q_drew)); exact HQ65.out⟩, ⟨by (with_reducible repeat (first | refine blk_drewN ?_ _ | refine blk_drew ?_ | refine blk_alloc ?_ _)); refine blk_far ?_ (by have h_ := Kd.Q_ne HO_590000.out BK583.out (by decide); intro e_; exact h_ (by rw [e_]; rfl)) _; (with_reducible repeat (first | refine blk_drewN ?_ _ | refine blk_drew ?_ | refine blk_alloc ?_ _)); exact BK583.out⟩, ⟨by (with_reducible repeat (first | refine blk_drewN ?_ _ | refine blk_drew ?_ | refine blk_alloc ?_ _)); refine blk_far ?_ (by have h_ := Kd.Q_ne HO_590000.out BK584.out (by decide); intro e_; exact h_ (by rw [e_]; rfl)) _; (with_reducible repeat (first | refine blk_drewN ?_ _ | refine blk_drew ?_ | refine blk_alloc ?_ _)); exact BK584.out⟩, ⟨by (with_reducible repeat (first | refine blk_drewN ?_ _ | refine blk_drew ?_ | refine blk_alloc ?_ _)); refine blk_far ?_ (by have h_ := Kd.Q_ne HO_590000.out BK589.out (by decide); intro e_; exact h_ (by rw [e_]; rfl)) _; (with_reducible repeat (first | refine blk_drewN ?_ _ | refine blk_drew ?_ | refine blk_alloc ?_ _)); exact BK589.out⟩, ⟨by repeat (first | (with_reducible first | exact HB.out | apply below_alloc | apply pw_below_drewN | apply below_drew1 | refine below_set ?_ GB55.out | refine below_set ?_ GE583.out | refine below_set ?_ GE584.out | refine below_set ?_ GE589.out | refine below_set ?_ GE591.out) | exact HB.out)⟩⟩
                          · rw [if_neg c53] at H
                            exact absurd H (by simp)
                        · rw [if_neg c52] at H
                          exact absurd H (by simp)
                      · rw [if_neg c51] at H
                        have c51b0 : (x27_2 == a2) = false := beq_eq_false_iff_ne.mpr c51
                        have c51b1 : (x27_2 != a2) = true := bne_iff_ne.mpr c51
                        have H' := Aside0.mk H
                        clear H
                        have p590 : 0 ≤ (x27_2 : Int) := of_decide_eq_true (by first | (with_reducible assumption) | assumption)
                        have q590 : x27_2 < (l0_1.length : Int) := of_decide_eq_true (by first | (with_reducible assumption) | assumption)
                        obtain ⟨ad590, e590, hx590_0, hx590_1⟩ := at_T54 HR0_1.out x27_2 p590 q590
                        cases e590
                        replace hx590_0 := (HB.out.cell (World.block_lt_of_cell? w _ hx590_0)).trans hx590_0
                        replace hx590_1 := (HB.out.cell (World.block_lt_of_cell? w _ hx590_1)).trans hx590_1
                        replace p590 := eq_true p590
                        replace q590 := eq_true q590
                        go_wp2_with (first | ((with_reducible refine gate_dst (N := 11) rfl ?_); refine box_event ?hg (N := 11) ?hd (cs := #[.int .i64 0, .string (⟨#[]⟩ : ByteArray)]) (t := 54) ?hr ?_; (case hd => rfl); (case hg => rfl); (case hr => first | (go_simp; done) | (go_simp; rfl)); intro gb591 hg w66 hbox hb; have n0_ := Aside0.mk (Kd.Q_below (by (with_reducible repeat (first | apply Kd.Q_alloc | apply Kd.Q_drewN | apply Kd.Q_drew)); exact HO_590000.out) hb); have n1_ := Aside0.mk (blk_below (g := gb583) (o := .cells #[.slice A0_0 l0_0.length c0_0, .slice (some ad590) l0_1.length c0_1, .int .i64 a0_2, .int .i64 a0_3] 30 (0, 0)) (by (with_reducible repeat (first | refine blk_drewN ?_ _ | refine blk_drew ?_ | refine blk_alloc ?_ _)); exact BK583.out) hb); have n2_ := Aside0.mk (blk_below (g := gb584) (o := .cells #[.slice none 0 0, .slice none 0 0, .int .i64 0, .int .i64 0] 30 (0, 0)) (by (with_reducible repeat (first | refine blk_drewN ?_ _ | refine blk_drew ?_ | refine blk_alloc ?_ _)); exact BK584.out) hb); have n3_ := Aside0.mk (blk_below (g := gb589) (o := .cells #[u590000, .slice none 0 0, .int .i64 (-1), .int .i64 (-1)] 30 (0, 0)) (by (with_reducible repeat (first | refine blk_drewN ?_ _ | refine blk_drew ?_ | refine blk_alloc ?_ _)); exact BK589.out) hb); have n4_ := Aside0.mk (below_step (by repeat (first | (with_reducible first | exact HB.out | apply below_alloc | apply pw_below_drewN | apply below_drew1 | refine below_set ?_ GE583.out | refine below_set ?_ GE584.out | refine below_set ?_ GE589.out) | exact HB.out)) hb); have n5_ := Aside0.mk (hbox); have n6_ := Aside0.mk ((by rw [hg]; exact (below_size (by repeat (first | (with_reducible first | exact HB.out | apply below_alloc | apply pw_below_drewN | apply below_drew1 | refine below_set ?_ GE583.out | refine below_set ?_ GE584.out | refine below_set ?_ GE589.out) | exact HB.out))) : w.heap.size ≤ gb591)); have n7_ := Aside0.mk ((by rw [hg]; exact (below_size (by repeat (first | (with_reducible first | exact HB.out | apply below_alloc | apply pw_below_drewN | apply below_drew1 | refine below_set ?_ GE583.out | refine below_set ?_ GE584.out | refine below_set ?_ GE589.out) | exact HB.out))) : w.heap.size ≤ gb591)); have n8_ := Aside0.mk ((by rw [hg]; exact Nat.ne_of_lt (blk_lt (g := gb583) (o := .cells #[.slice A0_0 l0_0.length c0_0, .slice (some ad590) l0_1.length c0_1, .int .i64 a0_2, .int .i64 a0_3] 30 (0, 0)) (by (with_reducible repeat (first | refine blk_drewN ?_ _ | refine blk_drew ?_ | refine blk_alloc ?_ _)); exact BK583.out)) : gb583 ≠ gb591)); have n9_ := Aside0.mk ((by rw [hg]; exact Nat.ne_of_gt (blk_lt (g := gb583) (o := .cells #[.slice A0_0 l0_0.length c0_0, .slice (some ad590) l0_1.length c0_1, .int .i64 a0_2, .int .i64 a0_3] 30 (0, 0)) (by (with_reducible repeat (first | refine blk_drewN ?_ _ | refine blk_drew ?_ | refine blk_alloc ?_ _)); exact BK583.out)) : gb591 ≠ gb583)); have n10_ := Aside0.mk ((by rw [hg]; exact Nat.ne_of_lt (blk_lt (g := gb584) (o := .cells #[.slice none 0 0, .slice none 0 0, .int .i64 0, .int .i64 0] 30 (0, 0)) (by (with_reducible repeat (first | refine blk_drewN ?_ _ | refine blk_drew ?_ | refine blk_alloc ?_ _)); exact BK584.out)) : gb584 ≠ gb591)); have n11_ := Aside0.mk ((by rw [hg]; exact Nat.ne_of_gt (blk_lt (g := gb584) (o := .cells #[.slice none 0 0, .slice none 0 0, .int .i64 0, .int .i64 0] 30 (0, 0)) (by (with_reducible repeat (first | refine blk_drewN ?_ _ | refine blk_drew ?_ | refine blk_alloc ?_ _)); exact BK584.out)) : gb591 ≠ gb584)); have n12_ := Aside0.mk ((by rw [hg]; exact Nat.ne_of_lt (blk_lt (g := gb589) (o := .cells #[u590000, .slice none 0 0, .int .i64 (-1), .int .i64 (-1)] 30 (0, 0)) (by (with_reducible repeat (first | refine blk_drewN ?_ _ | refine blk_drew ?_ | refine blk_alloc ?_ _)); exact BK589.out)) : gb589 ≠ gb591)); have n13_ := Aside0.mk ((by rw [hg]; exact Nat.ne_of_gt (blk_lt (g := gb589) (o := .cells #[u590000, .slice none 0 0, .int .i64 (-1), .int .i64 (-1)] 30 (0, 0)) (by (with_reducible repeat (first | refine blk_drewN ?_ _ | refine blk_drew ?_ | refine blk_alloc ?_ _)); exact BK589.out)) : gb591 ≠ gb589)); clear HO_590000; clear BK583; clear BK584; clear BK589; clear HB; have HO_590000 := n0_; have BK583 := n1_; have BK584 := n2_; have BK589 := n3_; have HB := n4_; have BK591 := n5_; have GW591 := n6_; have GE591 := n7_; have NB583_591 := n8_; have NB591_583 := n9_; have NB584_591 := n10_; have NB591_584 := n11_; have NB589_591 := n12_; have NB591_589 := n13_; clear n0_ n1_ n2_ n3_ n4_ n5_ n6_ n7_ n8_ n9_ n10_ n11_ n12_ n13_; clear hb hbox hg; have hnb67 := NB591_583.out; have hnc67 := NB583_591.out; have hnb68 := NB591_584.out; have hnc68 := NB584_591.out; have hnb69 := NB591_589.out; have hnc69 := NB589_591.out; have hcz70_0 : w66.cell? ⟨gb591, 0, none⟩ = some (.int .i64 0) := (blk_cell BK591.out 0).trans rfl; have hcz70_1 : w66.cell? ⟨gb591, 1, none⟩ = some (.string (⟨#[]⟩ : ByteArray)) := (blk_cell BK591.out 1).trans rfl; have hfz70_0 := blk_frozen BK591.out 0; have hfz70_1 := blk_frozen BK591.out 1))
                        go_roundg k2
                        case measure => have := HJ4.out; have := HK2.out; omega
                        case rel => exact ⟨(wrap64 (x27_2 + 1)), (x590000_2), (u590000), (by first | rfl | (simp; done) | (simp [*]; done)), H', ⟨by have := HJ4.out; have := HK2.out; omega⟩, ⟨by (with_reducible repeat (first | apply Kd.Q_alloc | apply Kd.Q_drewN | apply Kd.Q_drew)); exact Kd.Q_mono (Kd.Q_far (p := ⟨gb591, 1, none⟩) (Kd.Q_far (p := ⟨gb591, 0, none⟩) (Kd.Q_types HO_590000.out BK591.out (by decide)) (fun _ hk => hk.2) (.int .i64 ((rd_T54 l0_1 x27_2).f0))) (fun _ hk => hk.2) (.string ((rd_T54 l0_1 x27_2).f1))) (fun _ hk => trivial)⟩, ⟨by (with_reducible repeat (first | refine blk_drewN ?_ _ | refine blk_drew ?_ | refine blk_alloc ?_ _)); refine blk_far ?_ NB583_591.out _; (with_reducible repeat (first | refine blk_drewN ?_ _ | refine blk_drew ?_ | refine blk_alloc ?_ _)); refine blk_far ?_ NB583_591.out _; (with_reducible repeat (first | refine blk_drewN ?_ _ | refine blk_drew ?_ | refine blk_alloc ?_ _)); exact BK583.out⟩, ⟨by (with_reducible repeat (first | refine blk_drewN ?_ _ | refine blk_drew ?_ | refine blk_alloc ?_ _)); refine blk_far ?_ NB584_591.out _; (with_reducible repeat (first | refine blk_drewN ?_ _ | refine blk_drew ?_ | refine blk_alloc ?_ _)); refine blk_far ?_ NB584_591.out _; (with_reducible repeat (first | refine blk_drewN ?_ _ | refine blk_drew ?_ | refine blk_alloc ?_ _)); exact BK584.out⟩, ⟨by (with_reducible repeat (first | refine blk_drewN ?_ _ | refine blk_drew ?_ | refine blk_alloc ?_ _)); refine blk_far ?_ NB589_591.out _; (with_reducible repeat (first | refine blk_drewN ?_ _ | refine blk_drew ?_ | refine blk_alloc ?_ _)); refine blk_far ?_ NB589_591.out _; (with_reducible repeat (first | refine blk_drewN ?_ _ | refine blk_drew ?_ | refine blk_alloc ?_ _)); exact BK589.out⟩, ⟨by repeat (first | (with_reducible first | exact HB.out | apply below_alloc | apply pw_below_drewN | apply below_drew1 | refine below_set ?_ GE583.out | refine below_set ?_ GE584.out | refine below_set ?_ GE589.out | refine below_set ?_ GE591.out) | exact HB.out)⟩⟩
                  · rw [if_neg c33] at H
                    exact absurd H (by simp)
                · rw [if_neg c31] at H
                  exact absurd H (by simp)
              · rw [if_neg c30] at H
                exact absurd H (by simp)
            · rw [if_neg c29] at H
              have c29b0 : decide (x27_2 < (l0_1.length : Int)) = false := decide_eq_false c29
              clear c29
              simp only [Option.some.injEq, Prod.mk.injEq] at H
              obtain ⟨rfl, rfl, rfl, rfl⟩ := H
              have hnb71 := NB589_583.out
              have hnc71 := NB583_589.out
              have hnb72 := NB589_584.out
              have hnc72 := NB584_589.out
              have hcz73_0 : wr.cell? ⟨gb589, 0, none⟩ = some (u590000) := (blk_cell BK589.out 0).trans rfl
              have hcz73_1 : wr.cell? ⟨gb589, 1, none⟩ = some (.slice none 0 0) := (blk_cell BK589.out 1).trans rfl
              have hcz73_2 : wr.cell? ⟨gb589, 2, none⟩ = some (.int .i64 (-1)) := (blk_cell BK589.out 2).trans rfl
              have hcz73_3 : wr.cell? ⟨gb589, 3, none⟩ = some (.int .i64 (-1)) := (blk_cell BK589.out 3).trans rfl
              have hfz73_0 := blk_frozen BK589.out 0
              have hfz73_1 := blk_frozen BK589.out 1
              have hfz73_2 := blk_frozen BK589.out 2
              have hfz73_3 := blk_frozen BK589.out 3
              obtain ⟨Ao74, co74, eo74, _⟩ := Kd.Q_slice HO_590000.out
              subst eo74
              have hnb75 := NB584_583.out
              have hnc75 := NB583_584.out
              have hcz76_0 : wr.cell? ⟨gb584, 0, none⟩ = some (.slice none 0 0) := (blk_cell BK584.out 0).trans rfl
              have hcz76_1 : wr.cell? ⟨gb584, 1, none⟩ = some (.slice none 0 0) := (blk_cell BK584.out 1).trans rfl
              have hcz76_2 : wr.cell? ⟨gb584, 2, none⟩ = some (.int .i64 0) := (blk_cell BK584.out 2).trans rfl
              have hcz76_3 : wr.cell? ⟨gb584, 3, none⟩ = some (.int .i64 0) := (blk_cell BK584.out 3).trans rfl
              have hfz76_0 := blk_frozen BK584.out 0
              have hfz76_1 := blk_frozen BK584.out 1
              have hfz76_2 := blk_frozen BK584.out 2
              have hfz76_3 := blk_frozen BK584.out 3
              go_wp2
              refine bodyPost_ret (results_cell_row rfl _ _ gb584 30 #[.slice Ao74 x590000_2.length co74, .slice none 0 0, .int .i64 (-1), .int .i64 (-1)] (0, 0) _ rfl (by (with_reducible repeat (first | refine blk_drewN ?_ _ | refine blk_drew ?_ | refine blk_alloc ?_ _)); refine blk_put (cs := #[.slice Ao74 x590000_2.length co74, .slice none 0 0, .int .i64 (-1), .int .i64 0]) ?_ 3 _ rfl; (with_reducible repeat (first | refine blk_drewN ?_ _ | refine blk_drew ?_ | refine blk_alloc ?_ _)); refine blk_put (cs := #[.slice Ao74 x590000_2.length co74, .slice none 0 0, .int .i64 0, .int .i64 0]) ?_ 2 _ rfl; (with_reducible repeat (first | refine blk_drewN ?_ _ | refine blk_drew ?_ | refine blk_alloc ?_ _)); refine blk_put (cs := #[.slice Ao74 x590000_2.length co74, .slice none 0 0, .int .i64 0, .int .i64 0]) ?_ 1 _ rfl; (with_reducible repeat (first | refine blk_drewN ?_ _ | refine blk_drew ?_ | refine blk_alloc ?_ _)); refine blk_put (cs := #[.slice none 0 0, .slice none 0 0, .int .i64 0, .int .i64 0]) ?_ 0 _ rfl; (with_reducible repeat (first | refine blk_drewN ?_ _ | refine blk_drew ?_ | refine blk_alloc ?_ _)); exact BK584.out) Try.underlying30 rfl (by kernel_rfl)) rfl ?_
              exact ⟨_, _, by first | rfl | (simp [errW_none, errW_some] <;> rfl) | (simp [*, errW_none, errW_some] <;> rfl), by (with_reducible repeat (first | apply Kd.Q_alloc | apply Kd.Q_drewN | apply Kd.Q_drew)); exact Kd.Q_mono (Kd.Q_far (p := ⟨gb584, 3, none⟩) (Kd.Q_far (p := ⟨gb584, 2, none⟩) (Kd.Q_far (p := ⟨gb584, 1, none⟩) (Kd.Q_far (p := ⟨gb584, 0, none⟩) (Kd.Q_types HO_590000.out BK584.out (by decide)) (fun _ hk => hk.2) (.slice Ao74 x590000_2.length co74)) (fun _ hk => hk.2) (.slice none 0 0)) (fun _ hk => hk.2) (.int .i64 (-1))) (fun _ hk => hk.2) (.int .i64 (-1))) (fun _ hk => trivial), by first | exact Kd.R_nil _ _ _ _ _ | exact Kd.N_nil _ _ _ _ _ | exact Kd.V_nil _ _ _ _ _ | exact Kd.Q_nil _ _ _ _ _ | exact Kd.S_nil _ _ _ _ _, by repeat (first | (with_reducible first | exact HB.out | apply below_alloc | apply pw_below_drewN | apply below_drew1 | refine below_set ?_ GE583.out | refine below_set ?_ GE584.out | refine below_set ?_ GE589.out) | exact HB.out)⟩

end Go.Proofs.Ytldjfonpegffiaa.Q
