/- A part of the proof that the law FnExactDiskCrash answers true for every input: contracts of functions that it reaches, or its plain law. -/
import Derived.Test.YtldjfonpegffiaaProg
import Derived.Below
import Derived.Deep.Draws
import Derived.Deep.AppendLies
import Derived.Maps.AppendAt
import Derived.OwnWalk
import Derived.Laws.BytesArg
import Derived.Laws.MakeOwn
import Derived.Laws.OwnMore
import Derived.Deep.OwnRows
import Derived.Tactics
import Derived.Lib.ConvBytes
import Derived.Laws.Slices
import Derived.WalkKit
import Derived.KernelRfl
import Derived.RowKit3
import Derived.Deep.LoopGhost
import Derived.Deep.QuietTactic
import Derived.BigQuiet
import Derived.WideLaws
import Derived.Deep.DeepCutAuto
import Derived.Deep.CutBlock
import Derived.Deep.RegionHeld3
import Derived.Laws.Rows
import Derived.Lib.AppendStr
import Derived.ArgAppend
import Derived.Laws.IdiomCopy
import Derived.OrdersHeld
import Derived.Laws.BitsLemmas
import Derived.RowKit
import Derived.Test.YtldjfonpegffiaaCFnExactDiskCrashx0
import Derived.Test.YtldjfonpegffiaaCFnExactDiskCrashx1
import Derived.Test.YtldjfonpegffiaaCFnExactDiskCrashx2
import Derived.Test.YtldjfonpegffiaaCFnExactDiskCrashx3
import Derived.Test.YtldjfonpegffiaaCFnExactDiskCrashx11
import Derived.Test.YtldjfonpegffiaaCFnExactDiskCrashx12
namespace Go.Proofs.Ytldjfonpegffiaa.Q
open Go.RowKit Go.Proofs.YtldjfonpegffiaaW.PrintWords Go.Proofs.YtldjfonpegffiaaW.PrintLast Go.Proofs.YtldjfonpegffiaaW.PrintMore
attribute [local go_sem] max2_int min2_int max_two min_two max_three min_three max_four min_four   -- for this text's walks alone
set_option linter.unusedVariables false
set_option linter.unusedSimpArgs false

/-! ### spec_DiskCrash: function 37 -/
mutual
def spec_DiskCrash.j0 : Nat → Int → Int → Int → Bool → List ByteArray → List (S54) → Int → Int → Option (List ByteArray × (List (S54)) × Int × Int)
  | 0, _, _, _, _, _, _, _, _ => none
  | k + 1, x1, x2, x3, x18, x605000, x605001, x605002, x605003 => if x18 = true then (some (([] : List ByteArray), ([] : List (S54)), 0, 0)) else ((spec_l7Copy.f x605000 x605001 x605002 x605003).bind fun bt607 => (spec_DiskCrash.l0 k x1 x2 x3 0 x605000 x605001 x605002 x605003 bt607.1 bt607.2.1 bt607.2.2.1 bt607.2.2.2))
def spec_DiskCrash.l0 : Nat → Int → Int → Int → Int → List ByteArray → List (S54) → Int → Int → List ByteArray → List (S54) → Int → Int → Option (List ByteArray × (List (S54)) × Int × Int)
  | 0, _, _, _, _, _, _, _, _, _, _, _, _ => none
  | k + 1, x1, x2, x3, x10, x605000, x605001, x605002, x605003, x616000, x616001, x616002, x616003 => if x10 < (x605001.length : Int) then (if 0 ≤ x10 then ((spec_l7Bit.f k x1 x10).bind fun t618 => (if t618 = true then (if 0 ≤ ((rd_T54 x605001 x10).f0) then (if ((rd_T54 x605001 x10).f0) < (x616000.length : Int) then (spec_DiskCrash.l0 k x1 x2 x3 (wrap64 (x10 + 1)) x605000 x605001 x605002 x605003 (x616000.set (((rd_T54 x605001 x10).f0) : Int).toNat ((rd_T54 x605001 x10).f1)) x616001 x616002 x616003) else (none)) else (none)) else (if x10 = x2 then (if 0 ≤ ((rd_T54 x605001 x10).f0) then (if ((rd_T54 x605001 x10).f0) < (x616000.length : Int) then ((spec_l7Torn.f ((rd_T54 x605001 x10).f1) (rdOf ByteArray.empty x616000 ((rd_T54 x605001 x10).f0)) x3).bind fun t621 => (spec_DiskCrash.l0 k x1 x2 x3 (wrap64 (x10 + 1)) x605000 x605001 x605002 x605003 (x616000.set (((rd_T54 x605001 x10).f0) : Int).toNat t621) x616001 x616002 x616003)) else (none)) else (none)) else (spec_DiskCrash.l0 k x1 x2 x3 (wrap64 (x10 + 1)) x605000 x605001 x605002 x605003 x616000 x616001 x616002 x616003)))) else (none)) else (some (x616000, ([] : List (S54)), (-1), (-1)))
end
def spec_DiskCrash.f (k : Nat) (l0_0 : List ByteArray) (l0_1 : List (S54)) (a0_2 : Int) (a0_3 : Int) (a1 : Int) (a2 : Int) (a3 : Int) : Option (List ByteArray × (List (S54)) × Int × Int) := (spec_l7Ok.f k l0_0 l0_1 a0_2 a0_3).bind fun t606 => (if t606 = true then (spec_DiskCrash.j0 k a1 a2 a3 (decide (a1 < 0)) l0_0 l0_1 a0_2 a0_3) else (spec_DiskCrash.j0 k a1 a2 a3 true l0_0 l0_1 a0_2 a0_3))
theorem spec_DiskCrash.mono_l : ∀ k, (∀ y0 y1 y2 y3 y4 y5 y6 y7, LeO (spec_DiskCrash.j0 k y0 y1 y2 y3 y4 y5 y6 y7) (spec_DiskCrash.j0 (k + 1) y0 y1 y2 y3 y4 y5 y6 y7)) ∧ (∀ y0 y1 y2 y3 y4 y5 y6 y7 y8 y9 y10 y11, LeO (spec_DiskCrash.l0 k y0 y1 y2 y3 y4 y5 y6 y7 y8 y9 y10 y11) (spec_DiskCrash.l0 (k + 1) y0 y1 y2 y3 y4 y5 y6 y7 y8 y9 y10 y11))
  | 0 => ⟨fun _ _ _ _ _ _ _ _ r h => by simp [spec_DiskCrash.j0] at h, fun _ _ _ _ _ _ _ _ _ _ _ _ r h => by simp [spec_DiskCrash.l0] at h⟩
  | k + 1 => by
    obtain ⟨ih0, ih1⟩ := spec_DiskCrash.mono_l k
    refine ⟨?_, ?_⟩
    · intro y0 y1 y2 y3 y4 y5 y6 y7
      unfold spec_DiskCrash.j0
      repeat' first
      | (with_reducible exact ih0 _ _ _ _ _ _ _ _)
      | (with_reducible exact ih1 _ _ _ _ _ _ _ _ _ _ _ _)
      | (with_reducible exact spec_l7Bit.mono _ _ _)
      | (with_reducible exact spec_l7Ok.mono _ _ _ _ _)
      | (with_reducible exact LeO.refl _)
      | (with_reducible exact LeO.none _)
      | (with_reducible refine LeO.ite ?_ ?_)
      | (with_reducible refine LeO.bind ?_ (fun _ => ?_))
      | exact ih0 _ _ _ _ _ _ _ _
      | exact ih1 _ _ _ _ _ _ _ _ _ _ _ _
      | exact spec_l7Bit.mono _ _ _
      | exact spec_l7Ok.mono _ _ _ _ _
      | exact LeO.none _
      | refine LeO.ite ?_ ?_
      | refine LeO.bind ?_ (fun _ => ?_)
    · intro y0 y1 y2 y3 y4 y5 y6 y7 y8 y9 y10 y11
      unfold spec_DiskCrash.l0
      repeat' first
      | (with_reducible exact ih0 _ _ _ _ _ _ _ _)
      | (with_reducible exact ih1 _ _ _ _ _ _ _ _ _ _ _ _)
      | (with_reducible exact spec_l7Bit.mono _ _ _)
      | (with_reducible exact spec_l7Ok.mono _ _ _ _ _)
      | (with_reducible exact LeO.refl _)
      | (with_reducible exact LeO.none _)
      | (with_reducible refine LeO.ite ?_ ?_)
      | (with_reducible refine LeO.bind ?_ (fun _ => ?_))
      | exact ih0 _ _ _ _ _ _ _ _
      | exact ih1 _ _ _ _ _ _ _ _ _ _ _ _
      | exact spec_l7Bit.mono _ _ _
      | exact spec_l7Ok.mono _ _ _ _ _
      | exact LeO.none _
      | refine LeO.ite ?_ ?_
      | refine LeO.bind ?_ (fun _ => ?_)
theorem spec_DiskCrash.mono : ∀ a0 a1 a2 a3 a4 a5 a6 k, LeO (spec_DiskCrash.f k a0 a1 a2 a3 a4 a5 a6) (spec_DiskCrash.f (k + 1) a0 a1 a2 a3 a4 a5 a6) := by
  intro a0 a1 a2 a3 a4 a5 a6 k
  obtain ⟨ih0, ih1⟩ := spec_DiskCrash.mono_l k
  unfold spec_DiskCrash.f
  repeat' first
      | (with_reducible exact ih0 _ _ _ _ _ _ _ _)
      | (with_reducible exact ih1 _ _ _ _ _ _ _ _ _ _ _ _)
      | (with_reducible exact spec_l7Bit.mono _ _ _)
      | (with_reducible exact spec_l7Ok.mono _ _ _ _ _)
      | (with_reducible exact LeO.refl _)
      | (with_reducible exact LeO.none _)
      | (with_reducible refine LeO.ite ?_ ?_)
      | (with_reducible refine LeO.bind ?_ (fun _ => ?_))
      | exact ih0 _ _ _ _ _ _ _ _
      | exact ih1 _ _ _ _ _ _ _ _ _ _ _ _
      | exact spec_l7Bit.mono _ _ _
      | exact spec_l7Ok.mono _ _ _ _ _
      | exact LeO.none _
      | refine LeO.ite ?_ ?_
      | refine LeO.bind ?_ (fun _ => ?_)
def spec_DiskCrash.T11 : Bool × List (List Nat × List Nat) := (true, [([], []), ([0], [0]), ([], []), ([2], [2]), ([], []), ([4], [4]), ([], []), ([6], [6]), ([], []), ([8], [8]), ([7, 9], [7, 9]), ([10], [10]), ([], []), ([5, 11, 12], [5, 11, 12]), ([1, 3, 0, 1, 2, 3, 4, 5, 6, 7, 8, 9, 10, 11, 12, 13], [1, 3]), ([14, 13, 13, 0, 1, 2, 3, 4, 5, 6, 7, 8, 9, 10, 11, 12, 13], [13, 14])])
def spec_DiskCrash.B11 : List Nat := [0, 1, 0, 4, 0, 16, 0, 64, 0, 256, 960, 1984, 0, 8176, 16383, 32767]
theorem spec_DiskCrash.tab11 : rtab .any (opsOf Try.f37 11) = spec_DiskCrash.T11 := by kernel_rfl
theorem spec_DiskCrash.bits11 : waitsOk spec_DiskCrash.T11.2 spec_DiskCrash.B11 = true := by kernel_rfl
set_option maxHeartbeats 8000000 in
set_option maxRecDepth 100000 in
theorem spec_DiskCrash.calls (k : Nat) (A0_0 : Option Addr) (c0_0 : Nat) (l0_0 : List ByteArray) (A0_1 : Option Addr) (c0_1 : Nat) (l0_1 : List (S54)) (a0_2 : Int) (a0_3 : Int) (a1 : Int) (a2 : Int) (a3 : Int) (r1 : List ByteArray) (r2 : List (S54)) (r3 : Int) (r4 : Int) (w : World) (hr0_0 : Kd.C Kd.string w A0_0 l0_0.length l0_0) (hc0_0 : l0_0.length ≤ c0_0) (hr0_1 : Kd.C k54 w A0_1 l0_1.length l0_1) (hc0_1 : l0_1.length ≤ c0_1) (h : spec_DiskCrash.f k l0_0 l0_1 a0_2 a0_3 a1 a2 a3 = some (r1, r2, r3, r4)) :
    Calls Try.prog 37 #[.agg #[.slice A0_0 l0_0.length c0_0, .slice A0_1 l0_1.length c0_1, .int .i64 a0_2, .int .i64 a0_3], .int .i64 a1, .int .i64 a2, .int .i64 a3] w fun e w' => ∃ v0_ v1_ : Value, e = .returned (.agg #[v0_, v1_, .int .i64 r3, .int .i64 r4]) ∧ Kd.R Kd.string 9 w' w.heap.size (fun _ => True) v0_ r1 ∧ Kd.R k54 54 w' w.heap.size (fun _ => True) v1_ r2 ∧ Below w.heap.size w w' := by
  have hu30 := Try.underlying30
  have hu54 := Try.underlying54
  have HR0_0 := Aside0.mk hr0_0
  have HC0_0 := Aside0.mk hc0_0
  clear hr0_0 hc0_0
  have HR0_1 := Aside0.mk hr0_1
  have HC0_1 := Aside0.mk hc0_1
  clear hr0_1 hc0_1
  have HB := Aside0.mk (Below.refl w.heap.size w)
  have H : ((spec_l7Ok.f k l0_0 l0_1 a0_2 a0_3).bind fun t606 => (if t606 = true then (spec_DiskCrash.j0 k a1 a2 a3 (decide (a1 < 0)) l0_0 l0_1 a0_2 a0_3) else (spec_DiskCrash.j0 k a1 a2 a3 true l0_0 l0_1 a0_2 a0_3))) = some (r1, r2, r3, r4) := h
  clear h
  have HC5 := Aside0.mk H
  clear H
  go_enter Try.func37, Try.ntmps37
  go_upto_region 1 with (first | ((with_reducible refine gate_dst (N := 4) rfl ?_); refine box_event ?hg (N := 4) ?hd (cs := #[.slice A0_0 l0_0.length c0_0, .slice A0_1 l0_1.length c0_1, .int .i64 a0_2, .int .i64 a0_3]) (t := 30) ?hr ?_; (case hd => rfl); (case hg => rfl); (case hr => first | (go_simp; done) | (go_simp; rfl)); intro gb604 hg w6 hbox hb; have n0_ := Aside0.mk (below_step (by repeat (first | (with_reducible first | exact HB.out | apply below_alloc | apply pw_below_drewN | apply below_drew1) | exact HB.out)) hb); have n1_ := Aside0.mk (hbox); have n2_ := Aside0.mk ((by rw [hg]; exact (below_size (by repeat (first | (with_reducible first | exact HB.out | apply below_alloc | apply pw_below_drewN | apply below_drew1) | exact HB.out))) : w.heap.size ≤ gb604)); have n3_ := Aside0.mk ((by rw [hg]; exact (below_size (by repeat (first | (with_reducible first | exact HB.out | apply below_alloc | apply pw_below_drewN | apply below_drew1) | exact HB.out))) : w.heap.size ≤ gb604)); clear HB; have HB := n0_; have BK604 := n1_; have GW604 := n2_; have GE604 := n3_; clear n0_ n1_ n2_ n3_; clear hb hbox hg) | ((with_reducible refine gate_dst (N := 8) rfl ?_); refine box_event ?hg (N := 8) ?hd (cs := #[.slice none 0 0, .slice none 0 0, .int .i64 0, .int .i64 0]) (t := 30) ?hr ?_; (case hd => rfl); (case hg => rfl); (case hr => first | (go_simp; done) | (go_simp; rfl)); intro gb605 hg w7 hbox hb; have n0_ := Aside0.mk (blk_below (g := gb604) (o := .cells #[.slice A0_0 l0_0.length c0_0, .slice A0_1 l0_1.length c0_1, .int .i64 a0_2, .int .i64 a0_3] 30 (0, 0)) (by (with_reducible repeat (first | refine blk_drewN ?_ _ | refine blk_drew ?_ | refine blk_alloc ?_ _)); exact BK604.out) hb); have n1_ := Aside0.mk (below_step (by repeat (first | (with_reducible first | exact HB.out | apply below_alloc | apply pw_below_drewN | apply below_drew1 | refine below_set ?_ GE604.out) | exact HB.out)) hb); have n2_ := Aside0.mk (hbox); have n3_ := Aside0.mk ((by rw [hg]; exact (below_size (by repeat (first | (with_reducible first | exact HB.out | apply below_alloc | apply pw_below_drewN | apply below_drew1 | refine below_set ?_ GE604.out) | exact HB.out))) : w.heap.size ≤ gb605)); have n4_ := Aside0.mk ((by rw [hg]; exact (below_size (by repeat (first | (with_reducible first | exact HB.out | apply below_alloc | apply pw_below_drewN | apply below_drew1 | refine below_set ?_ GE604.out) | exact HB.out))) : w.heap.size ≤ gb605)); have n5_ := Aside0.mk ((by rw [hg]; exact Nat.ne_of_lt (blk_lt (g := gb604) (o := .cells #[.slice A0_0 l0_0.length c0_0, .slice A0_1 l0_1.length c0_1, .int .i64 a0_2, .int .i64 a0_3] 30 (0, 0)) (by (with_reducible repeat (first | refine blk_drewN ?_ _ | refine blk_drew ?_ | refine blk_alloc ?_ _)); exact BK604.out)) : gb604 ≠ gb605)); have n6_ := Aside0.mk ((by rw [hg]; exact Nat.ne_of_gt (blk_lt (g := gb604) (o := .cells #[.slice A0_0 l0_0.length c0_0, .slice A0_1 l0_1.length c0_1, .int .i64 a0_2, .int .i64 a0_3] 30 (0, 0)) (by (with_reducible repeat (first | refine blk_drewN ?_ _ | refine blk_drew ?_ | refine blk_alloc ?_ _)); exact BK604.out)) : gb605 ≠ gb604)); clear BK604; clear HB; have BK604 := n0_; have HB := n1_; have BK605 := n2_; have GW605 := n3_; have GE605 := n4_; have NB604_605 := n5_; have NB605_604 := n6_; clear n0_ n1_ n2_ n3_ n4_ n5_ n6_; clear hb hbox hg))
  (try simp only [Act.put, List.setIfInBounds_toArray, List.set_cons_zero, List.set_cons_succ])
  go_cut [18] (fun v18 wc => ∃ (kq : Nat) (x18_4 : Bool), v18 = .bool x18_4 ∧ Aside0 (spec_DiskCrash.j0 kq a1 a2 a3 x18_4 l0_0 l0_1 a0_2 a0_3 = some (r1, r2, r3, r4)) ∧ Aside0 (kq ≤ k) ∧ Aside0 (wc.heap[gb604]? = some (.cells #[(.slice A0_0 l0_0.length c0_0), (.slice A0_1 l0_1.length c0_1), .int .i64 a0_2, .int .i64 a0_3] 30 (0, 0))) ∧ Aside0 (wc.heap[gb605]? = some (.cells #[(.slice none 0 0), (.slice none 0 0), .int .i64 0, .int .i64 0] 30 (0, 0))) ∧ Aside0 (Below w.heap.size w wc))
  case first =>
    have H := HC5.out
    clear HC5
    replace H := Option.bind_eq_some_iff.mp H
    obtain ⟨t606, A80, H⟩ := H
    replace H : (if t606 = true then (spec_DiskCrash.j0 k a1 a2 a3 (decide (a1 < 0)) l0_0 l0_1 a0_2 a0_3) else (spec_DiskCrash.j0 k a1 a2 a3 true l0_0 l0_1 a0_2 a0_3)) = some (r1, r2, r3, r4) := H
    have A8 := Aside0.mk A80
    clear A80
    by_cases c9 : t606 = true
    · subst c9
      have H1 : (spec_DiskCrash.j0 k a1 a2 a3 (decide (a1 < 0)) l0_0 l0_1 a0_2 a0_3) = some (r1, r2, r3, r4) := by rw [if_pos rfl] at H; exact H
      clear H
      have H := H1
      clear H1
      have H' := Aside0.mk H
      clear H
      have hnb10 := NB604_605.out
      have hnc10 := NB605_604.out
      have hcz11_0 : w7.cell? ⟨gb604, 0, none⟩ = some (.slice A0_0 l0_0.length c0_0) := (blk_cell BK604.out 0).trans rfl
      have hcz11_1 : w7.cell? ⟨gb604, 1, none⟩ = some (.slice A0_1 l0_1.length c0_1) := (blk_cell BK604.out 1).trans rfl
      have hcz11_2 : w7.cell? ⟨gb604, 2, none⟩ = some (.int .i64 a0_2) := (blk_cell BK604.out 2).trans rfl
      have hcz11_3 : w7.cell? ⟨gb604, 3, none⟩ = some (.int .i64 a0_3) := (blk_cell BK604.out 3).trans rfl
      have hfz11_0 := blk_frozen BK604.out 0
      have hfz11_1 := blk_frozen BK604.out 1
      have hfz11_2 := blk_frozen BK604.out 2
      have hfz11_3 := blk_frozen BK604.out 3
      go_wp2_with (first | ((with_reducible refine gate_callee (f := 65) rfl ?_); refine goesL_ (some 13) rfl rfl Try.func65 (by kernel_rfl) rfl #[.agg #[.slice A0_0 l0_0.length c0_0, .slice A0_1 l0_1.length c0_1, .int .i64 a0_2, .int .i64 a0_3]] rfl (by (try simp only [List.map_toArray, List.map_cons, List.map_nil]); first | done | rfl | (simp only [List.length_drop, List.length_take]; rfl)) ?_; (with_reducible refine (spec_l7Ok.calls k _ _ l0_0 _ _ l0_1 a0_2 a0_3 true _ ?side1 ?side2 ?side3 ?side4 A8.out).mono ?_); (case side1 => repeat (first | exact (Kd.C_below HR0_0.out HB.out) | (with_reducible refine Kd.C_alloc ?_ _) | (with_reducible refine Kd.C_drewN ?_ _) | (with_reducible refine Kd.C_drew ?_))); (case side2 => exact HC0_0.out); (case side3 => repeat (first | exact (Kd.C_below HR0_1.out HB.out) | (with_reducible refine Kd.C_alloc ?_ _) | (with_reducible refine Kd.C_drewN ?_ _) | (with_reducible refine Kd.C_drew ?_))); (case side4 => exact HC0_1.out); rintro e w12 ⟨rfl, hb⟩; refine ⟨_, rfl, ?_⟩; have n0_ := Aside0.mk (blk_below (g := gb604) (o := .cells #[.slice A0_0 l0_0.length c0_0, .slice A0_1 l0_1.length c0_1, .int .i64 a0_2, .int .i64 a0_3] 30 (0, 0)) (by (with_reducible repeat (first | refine blk_drewN ?_ _ | refine blk_drew ?_ | refine blk_alloc ?_ _)); exact BK604.out) hb); have n1_ := Aside0.mk (blk_below (g := gb605) (o := .cells #[.slice none 0 0, .slice none 0 0, .int .i64 0, .int .i64 0] 30 (0, 0)) (by (with_reducible repeat (first | refine blk_drewN ?_ _ | refine blk_drew ?_ | refine blk_alloc ?_ _)); exact BK605.out) hb); have n2_ := Aside0.mk (below_step (by repeat (first | (with_reducible first | exact HB.out | apply below_alloc | apply pw_below_drewN | apply below_drew1 | refine below_set ?_ GE604.out | refine below_set ?_ GE605.out) | exact HB.out)) hb); clear BK604; clear BK605; clear HB; have BK604 := n0_; have BK605 := n1_; have HB := n2_; clear n0_ n1_ n2_; (try clear hb); (try clear hb2); (try clear hk); (try clear hi)))
      go_meet
      case rel => exact ⟨_, (decide (a1 < 0)), (by first | rfl | (simp; done) | (simp [*]; done)), H', ⟨by first | omega | exact Nat.le_refl _⟩, ⟨by (with_reducible repeat (first | refine blk_drewN ?_ _ | refine blk_drew ?_ | refine blk_alloc ?_ _)); exact BK604.out⟩, ⟨by (with_reducible repeat (first | refine blk_drewN ?_ _ | refine blk_drew ?_ | refine blk_alloc ?_ _)); exact BK605.out⟩, ⟨by repeat (first | (with_reducible first | exact HB.out | apply below_alloc | apply pw_below_drewN | apply below_drew1 | refine below_set ?_ GE604.out | refine below_set ?_ GE605.out) | exact HB.out)⟩⟩
    · replace c9 := Bool.eq_false_iff.mpr c9
      subst c9
      have H1 : (spec_DiskCrash.j0 k a1 a2 a3 true l0_0 l0_1 a0_2 a0_3) = some (r1, r2, r3, r4) := by rw [if_neg (show ¬ (false = true) by decide)] at H; exact H
      clear H
      have H := H1
      clear H1
      have H' := Aside0.mk H
      clear H
      have hnb13 := NB604_605.out
      have hnc13 := NB605_604.out
      have hcz14_0 : w7.cell? ⟨gb604, 0, none⟩ = some (.slice A0_0 l0_0.length c0_0) := (blk_cell BK604.out 0).trans rfl
      have hcz14_1 : w7.cell? ⟨gb604, 1, none⟩ = some (.slice A0_1 l0_1.length c0_1) := (blk_cell BK604.out 1).trans rfl
      have hcz14_2 : w7.cell? ⟨gb604, 2, none⟩ = some (.int .i64 a0_2) := (blk_cell BK604.out 2).trans rfl
      have hcz14_3 : w7.cell? ⟨gb604, 3, none⟩ = some (.int .i64 a0_3) := (blk_cell BK604.out 3).trans rfl
      have hfz14_0 := blk_frozen BK604.out 0
      have hfz14_1 := blk_frozen BK604.out 1
      have hfz14_2 := blk_frozen BK604.out 2
      have hfz14_3 := blk_frozen BK604.out 3
      go_wp2_with (first | ((with_reducible refine gate_callee (f := 65) rfl ?_); refine goesL_ (some 13) rfl rfl Try.func65 (by kernel_rfl) rfl #[.agg #[.slice A0_0 l0_0.length c0_0, .slice A0_1 l0_1.length c0_1, .int .i64 a0_2, .int .i64 a0_3]] rfl (by (try simp only [List.map_toArray, List.map_cons, List.map_nil]); first | done | rfl | (simp only [List.length_drop, List.length_take]; rfl)) ?_; (with_reducible refine (spec_l7Ok.calls k _ _ l0_0 _ _ l0_1 a0_2 a0_3 false _ ?side1 ?side2 ?side3 ?side4 A8.out).mono ?_); (case side1 => repeat (first | exact (Kd.C_below HR0_0.out HB.out) | (with_reducible refine Kd.C_alloc ?_ _) | (with_reducible refine Kd.C_drewN ?_ _) | (with_reducible refine Kd.C_drew ?_))); (case side2 => exact HC0_0.out); (case side3 => repeat (first | exact (Kd.C_below HR0_1.out HB.out) | (with_reducible refine Kd.C_alloc ?_ _) | (with_reducible refine Kd.C_drewN ?_ _) | (with_reducible refine Kd.C_drew ?_))); (case side4 => exact HC0_1.out); rintro e w15 ⟨rfl, hb⟩; refine ⟨_, rfl, ?_⟩; have n0_ := Aside0.mk (blk_below (g := gb604) (o := .cells #[.slice A0_0 l0_0.length c0_0, .slice A0_1 l0_1.length c0_1, .int .i64 a0_2, .int .i64 a0_3] 30 (0, 0)) (by (with_reducible repeat (first | refine blk_drewN ?_ _ | refine blk_drew ?_ | refine blk_alloc ?_ _)); exact BK604.out) hb); have n1_ := Aside0.mk (blk_below (g := gb605) (o := .cells #[.slice none 0 0, .slice none 0 0, .int .i64 0, .int .i64 0] 30 (0, 0)) (by (with_reducible repeat (first | refine blk_drewN ?_ _ | refine blk_drew ?_ | refine blk_alloc ?_ _)); exact BK605.out) hb); have n2_ := Aside0.mk (below_step (by repeat (first | (with_reducible first | exact HB.out | apply below_alloc | apply pw_below_drewN | apply below_drew1 | refine below_set ?_ GE604.out | refine below_set ?_ GE605.out) | exact HB.out)) hb); clear BK604; clear BK605; clear HB; have BK604 := n0_; have BK605 := n1_; have HB := n2_; clear n0_ n1_ n2_; (try clear hb); (try clear hb2); (try clear hk); (try clear hi)))
      go_meet
      case rel => exact ⟨_, (true), (by first | rfl | (simp; done) | (simp [*]; done)), H', ⟨by first | omega | exact Nat.le_refl _⟩, ⟨by (with_reducible repeat (first | refine blk_drewN ?_ _ | refine blk_drew ?_ | refine blk_alloc ?_ _)); exact BK604.out⟩, ⟨by (with_reducible repeat (first | refine blk_drewN ?_ _ | refine blk_drew ?_ | refine blk_alloc ?_ _)); exact BK605.out⟩, ⟨by repeat (first | (with_reducible first | exact HB.out | apply below_alloc | apply pw_below_drewN | apply below_drew1 | refine below_set ?_ GE604.out | refine below_set ?_ GE605.out) | exact HB.out)⟩⟩
  case rest =>
    clear HC5
    try clear c1
    try clear p2
    try clear c3
    try clear c6
    try clear c9
    try clear c10
    try clear c13
    try clear hcz11_0
    try clear hcz11_1
    try clear hcz11_2
    try clear hcz11_3
    try clear hcz14_0
    try clear hcz14_1
    try clear hcz14_2
    try clear hcz14_3
    try clear hfz11_0
    try clear hfz11_1
    try clear hfz11_2
    try clear hfz11_3
    try clear hfz14_0
    try clear hfz14_1
    try clear hfz14_2
    try clear hfz14_3
    obtain ⟨kq, x18_4, rfl, HA, HJ4, BK604, BK605, HB⟩ := hcut
    cases kq with
    | zero => exact absurd HA.out (by simp [spec_DiskCrash.j0])
    | succ kj4 =>
      have H := HA.out
      clear HA
      simp only [spec_DiskCrash.j0] at H
      by_cases c16 : x18_4 = true
      · subst c16
        have H1 : (some (([] : List ByteArray), ([] : List (S54)), 0, 0)) = some (r1, r2, r3, r4) := by rw [if_pos rfl] at H; exact H
        clear H
        have H := H1
        clear H1
        simp only [Option.some.injEq, Prod.mk.injEq] at H
        obtain ⟨rfl, rfl, rfl, rfl⟩ := H
        have hnb17 := NB605_604.out
        have hnc17 := NB604_605.out
        have hcz18_0 : wc.cell? ⟨gb605, 0, none⟩ = some (.slice none 0 0) := (blk_cell BK605.out 0).trans rfl
        have hcz18_1 : wc.cell? ⟨gb605, 1, none⟩ = some (.slice none 0 0) := (blk_cell BK605.out 1).trans rfl
        have hcz18_2 : wc.cell? ⟨gb605, 2, none⟩ = some (.int .i64 0) := (blk_cell BK605.out 2).trans rfl
        have hcz18_3 : wc.cell? ⟨gb605, 3, none⟩ = some (.int .i64 0) := (blk_cell BK605.out 3).trans rfl
        have hfz18_0 := blk_frozen BK605.out 0
        have hfz18_1 := blk_frozen BK605.out 1
        have hfz18_2 := blk_frozen BK605.out 2
        have hfz18_3 := blk_frozen BK605.out 3
        go_wp2
        refine bodyPost_ret (results_cell_row rfl _ _ gb605 30 #[.slice none 0 0, .slice none 0 0, .int .i64 0, .int .i64 0] (0, 0) _ rfl (by (with_reducible repeat (first | refine blk_drewN ?_ _ | refine blk_drew ?_ | refine blk_alloc ?_ _)); refine blk_put (cs := #[.slice none 0 0, .slice none 0 0, .int .i64 0, .int .i64 0]) ?_ 3 _ rfl; (with_reducible repeat (first | refine blk_drewN ?_ _ | refine blk_drew ?_ | refine blk_alloc ?_ _)); refine blk_put (cs := #[.slice none 0 0, .slice none 0 0, .int .i64 0, .int .i64 0]) ?_ 2 _ rfl; (with_reducible repeat (first | refine blk_drewN ?_ _ | refine blk_drew ?_ | refine blk_alloc ?_ _)); refine blk_put (cs := #[.slice none 0 0, .slice none 0 0, .int .i64 0, .int .i64 0]) ?_ 1 _ rfl; (with_reducible repeat (first | refine blk_drewN ?_ _ | refine blk_drew ?_ | refine blk_alloc ?_ _)); refine blk_put (cs := #[.slice none 0 0, .slice none 0 0, .int .i64 0, .int .i64 0]) ?_ 0 _ rfl; (with_reducible repeat (first | refine blk_drewN ?_ _ | refine blk_drew ?_ | refine blk_alloc ?_ _)); exact BK605.out) Try.underlying30 rfl (by kernel_rfl)) rfl ?_
        exact ⟨_, _, by first | rfl | (simp [errW_none, errW_some] <;> rfl) | (simp [*, errW_none, errW_some] <;> rfl), by first | exact Kd.R_nil _ _ _ _ _ | exact Kd.N_nil _ _ _ _ _ | exact Kd.V_nil _ _ _ _ _ | exact Kd.Q_nil _ _ _ _ _ | exact Kd.S_nil _ _ _ _ _, by first | exact Kd.R_nil _ _ _ _ _ | exact Kd.N_nil _ _ _ _ _ | exact Kd.V_nil _ _ _ _ _ | exact Kd.Q_nil _ _ _ _ _ | exact Kd.S_nil _ _ _ _ _, by repeat (first | (with_reducible first | exact HB.out | apply below_alloc | apply pw_below_drewN | apply below_drew1 | refine below_set ?_ GE604.out | refine below_set ?_ GE605.out) | exact HB.out)⟩
      · replace c16 := Bool.eq_false_iff.mpr c16
        subst c16
        have H1 : ((spec_l7Copy.f l0_0 l0_1 a0_2 a0_3).bind fun bt607 => (spec_DiskCrash.l0 kj4 a1 a2 a3 0 l0_0 l0_1 a0_2 a0_3 bt607.1 bt607.2.1 bt607.2.2.1 bt607.2.2.2)) = some (r1, r2, r3, r4) := by rw [if_neg (show ¬ (false = true) by decide)] at H; exact H
        clear H
        have H := H1
        clear H1
        replace H := Option.bind_eq_some_iff.mp H
        obtain ⟨⟨t607, t610, t613, t614⟩, A190, H⟩ := H
        replace H : (spec_DiskCrash.l0 kj4 a1 a2 a3 0 l0_0 l0_1 a0_2 a0_3 t607 t610 t613 t614) = some (r1, r2, r3, r4) := H
        have A19 := Aside0.mk A190
        clear A190
        have H' := Aside0.mk H
        clear H
        have hnb20 := NB604_605.out
        have hnc20 := NB605_604.out
        have hcz21_0 : wc.cell? ⟨gb604, 0, none⟩ = some (.slice A0_0 l0_0.length c0_0) := (blk_cell BK604.out 0).trans rfl
        have hcz21_1 : wc.cell? ⟨gb604, 1, none⟩ = some (.slice A0_1 l0_1.length c0_1) := (blk_cell BK604.out 1).trans rfl
        have hcz21_2 : wc.cell? ⟨gb604, 2, none⟩ = some (.int .i64 a0_2) := (blk_cell BK604.out 2).trans rfl
        have hcz21_3 : wc.cell? ⟨gb604, 3, none⟩ = some (.int .i64 a0_3) := (blk_cell BK604.out 3).trans rfl
        have hfz21_0 := blk_frozen BK604.out 0
        have hfz21_1 := blk_frozen BK604.out 1
        have hfz21_2 := blk_frozen BK604.out 2
        have hfz21_3 := blk_frozen BK604.out 3
        go_wp2_with (first | ((with_reducible refine gate_callee (f := 84) rfl ?_); refine goesL_ (some 21) rfl rfl Try.func84 (by kernel_rfl) rfl #[.agg #[.slice A0_0 l0_0.length c0_0, .slice A0_1 l0_1.length c0_1, .int .i64 a0_2, .int .i64 a0_3]] rfl (by (try simp only [List.map_toArray, List.map_cons, List.map_nil]); first | done | rfl | (simp only [List.length_drop, List.length_take]; rfl)) ?_; (with_reducible refine (spec_l7Copy.calls _ _ l0_0 _ _ l0_1 a0_2 a0_3 t607 t610 t613 t614 _ ?side1 ?side2 ?side3 ?side4 A19.out).mono ?_); (case side1 => repeat (first | exact (Kd.C_below HR0_0.out HB.out) | (with_reducible refine Kd.C_alloc ?_ _) | (with_reducible refine Kd.C_drewN ?_ _) | (with_reducible refine Kd.C_drew ?_))); (case side2 => exact HC0_0.out); (case side3 => repeat (first | exact (Kd.C_below HR0_1.out HB.out) | (with_reducible refine Kd.C_alloc ?_ _) | (with_reducible refine Kd.C_drewN ?_ _) | (with_reducible refine Kd.C_drew ?_))); (case side4 => exact HC0_1.out); rintro e w22 ⟨v608, v611, rfl, ho0, ho1, hb⟩; refine ⟨_, rfl, ?_⟩; have n0_ := Aside0.mk (Kd.R_lower ho0 (below_size (by repeat (first | (with_reducible first | exact HB.out | apply below_alloc | apply pw_below_drewN | apply below_drew1 | refine below_set ?_ GE604.out | refine below_set ?_ GE605.out) | exact HB.out)))); have n1_ := Aside0.mk (Kd.R_lower ho1 (below_size (by repeat (first | (with_reducible first | exact HB.out | apply below_alloc | apply pw_below_drewN | apply below_drew1 | refine below_set ?_ GE604.out | refine below_set ?_ GE605.out) | exact HB.out)))); have n2_ := Aside0.mk (blk_below (g := gb604) (o := .cells #[.slice A0_0 l0_0.length c0_0, .slice A0_1 l0_1.length c0_1, .int .i64 a0_2, .int .i64 a0_3] 30 (0, 0)) (by (with_reducible repeat (first | refine blk_drewN ?_ _ | refine blk_drew ?_ | refine blk_alloc ?_ _)); exact BK604.out) hb); have n3_ := Aside0.mk (blk_below (g := gb605) (o := .cells #[.slice none 0 0, .slice none 0 0, .int .i64 0, .int .i64 0] 30 (0, 0)) (by (with_reducible repeat (first | refine blk_drewN ?_ _ | refine blk_drew ?_ | refine blk_alloc ?_ _)); exact BK605.out) hb); have n4_ := Aside0.mk (below_step (by repeat (first | (with_reducible first | exact HB.out | apply below_alloc | apply pw_below_drewN | apply below_drew1 | refine below_set ?_ GE604.out | refine below_set ?_ GE605.out) | exact HB.out)) hb); clear BK604; clear BK605; clear HB; have HO609 := n0_; have HO612 := n1_; have BK604 := n2_; have BK605 := n3_; have HB := n4_; clear n0_ n1_ n2_ n3_ n4_; (try clear hb); (try clear hb2); (try clear hk); (try clear hi); (try clear ho0); (try clear ho1)) | ((with_reducible refine gate_dst (N := 9) rfl ?_); refine box_event ?hg (N := 9) ?hd (cs := #[.slice none 0 0, .slice none 0 0, .int .i64 0, .int .i64 0]) (t := 30) ?hr ?_; (case hd => rfl); (case hg => rfl); (case hr => first | (go_simp; done) | (go_simp; rfl)); intro gb615 hg w23 hbox hb; have n0_ := Aside0.mk (Kd.R_below (by (with_reducible repeat (first | apply Kd.R_alloc | apply Kd.R_drewN | apply Kd.R_drew)); exact HO609.out) hb); have n1_ := Aside0.mk (Kd.R_below (by (with_reducible repeat (first | apply Kd.R_alloc | apply Kd.R_drewN | apply Kd.R_drew)); exact HO612.out) hb); have n2_ := Aside0.mk (blk_below (g := gb604) (o := .cells #[.slice A0_0 l0_0.length c0_0, .slice A0_1 l0_1.length c0_1, .int .i64 a0_2, .int .i64 a0_3] 30 (0, 0)) (by (with_reducible repeat (first | refine blk_drewN ?_ _ | refine blk_drew ?_ | refine blk_alloc ?_ _)); exact BK604.out) hb); have n3_ := Aside0.mk (blk_below (g := gb605) (o := .cells #[.slice none 0 0, .slice none 0 0, .int .i64 0, .int .i64 0] 30 (0, 0)) (by (with_reducible repeat (first | refine blk_drewN ?_ _ | refine blk_drew ?_ | refine blk_alloc ?_ _)); exact BK605.out) hb); have n4_ := Aside0.mk (below_step (by repeat (first | (with_reducible first | exact HB.out | apply below_alloc | apply pw_below_drewN | apply below_drew1 | refine below_set ?_ GE604.out | refine below_set ?_ GE605.out) | exact HB.out)) hb); have n5_ := Aside0.mk (hbox); have n6_ := Aside0.mk ((by rw [hg]; exact (below_size (by repeat (first | (with_reducible first | exact HB.out | apply below_alloc | apply pw_below_drewN | apply below_drew1 | refine below_set ?_ GE604.out | refine below_set ?_ GE605.out) | exact HB.out))) : w.heap.size ≤ gb615)); have n7_ := Aside0.mk ((by rw [hg]; exact (below_size (by repeat (first | (with_reducible first | exact HB.out | apply below_alloc | apply pw_below_drewN | apply below_drew1 | refine below_set ?_ GE604.out | refine below_set ?_ GE605.out) | exact HB.out))) : w.heap.size ≤ gb615)); have n8_ := Aside0.mk ((by rw [hg]; exact Nat.ne_of_lt (blk_lt (g := gb604) (o := .cells #[.slice A0_0 l0_0.length c0_0, .slice A0_1 l0_1.length c0_1, .int .i64 a0_2, .int .i64 a0_3] 30 (0, 0)) (by (with_reducible repeat (first | refine blk_drewN ?_ _ | refine blk_drew ?_ | refine blk_alloc ?_ _)); exact BK604.out)) : gb604 ≠ gb615)); have n9_ := Aside0.mk ((by rw [hg]; exact Nat.ne_of_gt (blk_lt (g := gb604) (o := .cells #[.slice A0_0 l0_0.length c0_0, .slice A0_1 l0_1.length c0_1, .int .i64 a0_2, .int .i64 a0_3] 30 (0, 0)) (by (with_reducible repeat (first | refine blk_drewN ?_ _ | refine blk_drew ?_ | refine blk_alloc ?_ _)); exact BK604.out)) : gb615 ≠ gb604)); have n10_ := Aside0.mk ((by rw [hg]; exact Nat.ne_of_lt (blk_lt (g := gb605) (o := .cells #[.slice none 0 0, .slice none 0 0, .int .i64 0, .int .i64 0] 30 (0, 0)) (by (with_reducible repeat (first | refine blk_drewN ?_ _ | refine blk_drew ?_ | refine blk_alloc ?_ _)); exact BK605.out)) : gb605 ≠ gb615)); have n11_ := Aside0.mk ((by rw [hg]; exact Nat.ne_of_gt (blk_lt (g := gb605) (o := .cells #[.slice none 0 0, .slice none 0 0, .int .i64 0, .int .i64 0] 30 (0, 0)) (by (with_reducible repeat (first | refine blk_drewN ?_ _ | refine blk_drew ?_ | refine blk_alloc ?_ _)); exact BK605.out)) : gb615 ≠ gb605)); clear HO609; clear HO612; clear BK604; clear BK605; clear HB; have HO609 := n0_; have HO612 := n1_; have BK604 := n2_; have BK605 := n3_; have HB := n4_; have BK615 := n5_; have GW615 := n6_; have GE615 := n7_; have NB604_615 := n8_; have NB615_604 := n9_; have NB605_615 := n10_; have NB615_605 := n11_; clear n0_ n1_ n2_ n3_ n4_ n5_ n6_ n7_ n8_ n9_ n10_ n11_; clear hb hbox hg; obtain ⟨Ao24, co24, eo24⟩ := Kd.R_slice HO609.out; subst eo24; have hnb25 := NB615_604.out; have hnc25 := NB604_615.out; have hnb26 := NB615_605.out; have hnc26 := NB605_615.out; have hcz27_0 : w23.cell? ⟨gb615, 0, none⟩ = some (.slice none 0 0) := (blk_cell BK615.out 0).trans rfl; have hcz27_1 : w23.cell? ⟨gb615, 1, none⟩ = some (.slice none 0 0) := (blk_cell BK615.out 1).trans rfl; have hcz27_2 : w23.cell? ⟨gb615, 2, none⟩ = some (.int .i64 0) := (blk_cell BK615.out 2).trans rfl; have hcz27_3 : w23.cell? ⟨gb615, 3, none⟩ = some (.int .i64 0) := (blk_cell BK615.out 3).trans rfl; have hfz27_0 := blk_frozen BK615.out 0; have hfz27_1 := blk_frozen BK615.out 1; have hfz27_2 := blk_frozen BK615.out 2; have hfz27_3 := blk_frozen BK615.out 3; obtain ⟨Ao28, co28, eo28⟩ := Kd.R_slice HO612.out; subst eo28))
        go_loopg [10] kj4 (fun kq v10 w' => ∃ (x10_2 : Int) (x616000_2 : List ByteArray) (u616000 : Value), v10 = .int .i64 x10_2 ∧ Aside0 (spec_DiskCrash.l0 kq a1 a2 a3 x10_2 l0_0 l0_1 a0_2 a0_3 x616000_2 t610 t613 t614 = some (r1, r2, r3, r4)) ∧ Aside0 (kq ≤ kj4) ∧ Aside0 (Kd.R Kd.string 9 w' w.heap.size (fun _ => True) u616000 x616000_2) ∧ Aside0 (Kd.R k54 54 w' w.heap.size (fun _ => True) (.slice Ao28 t610.length co28) t610) ∧ Aside0 (w'.heap[gb604]? = some (.cells #[(.slice A0_0 l0_0.length c0_0), (.slice A0_1 l0_1.length c0_1), .int .i64 a0_2, .int .i64 a0_3] 30 (0, 0))) ∧ Aside0 (w'.heap[gb605]? = some (.cells #[(.slice none 0 0), (.slice none 0 0), .int .i64 0, .int .i64 0] 30 (0, 0))) ∧ Aside0 (w'.heap[gb615]? = some (.cells #[u616000, (.slice Ao28 t610.length co28), .int .i64 t613, .int .i64 t614] 30 (0, 0))) ∧ Aside0 (Below w.heap.size w w'))
        case atStart => exact ⟨(0), (t607), (.slice Ao24 t607.length co24), (by first | rfl | (simp; done) | (simp [*]; done)), H', ⟨Nat.le_refl _⟩, ⟨by (with_reducible repeat (first | apply Kd.R_alloc | apply Kd.R_drewN | apply Kd.R_drew)); exact Kd.R_mono (Kd.R_far (p := ⟨gb615, 3, none⟩) (Kd.R_far (p := ⟨gb615, 2, none⟩) (Kd.R_far (p := ⟨gb615, 1, none⟩) (Kd.R_far (p := ⟨gb615, 0, none⟩) (Kd.R_types HO609.out BK615.out (by decide)) (fun _ hk => hk.2) (.slice Ao24 t607.length co24)) (fun _ hk => hk.2) (.slice Ao28 t610.length co28)) (fun _ hk => hk.2) (.int .i64 t613)) (fun _ hk => hk.2) (.int .i64 t614)) (fun _ hk => trivial)⟩, ⟨by (with_reducible repeat (first | apply Kd.R_alloc | apply Kd.R_drewN | apply Kd.R_drew)); exact Kd.R_mono (Kd.R_far (p := ⟨gb615, 3, none⟩) (Kd.R_far (p := ⟨gb615, 2, none⟩) (Kd.R_far (p := ⟨gb615, 1, none⟩) (Kd.R_far (p := ⟨gb615, 0, none⟩) (Kd.R_types HO612.out BK615.out (by decide)) (fun _ hk => hk.2) (.slice Ao24 t607.length co24)) (fun _ hk => hk.2) (.slice Ao28 t610.length co28)) (fun _ hk => hk.2) (.int .i64 t613)) (fun _ hk => hk.2) (.int .i64 t614)) (fun _ hk => trivial)⟩, ⟨by (with_reducible repeat (first | refine blk_drewN ?_ _ | refine blk_drew ?_ | refine blk_alloc ?_ _)); refine blk_far ?_ NB604_615.out _; (with_reducible repeat (first | refine blk_drewN ?_ _ | refine blk_drew ?_ | refine blk_alloc ?_ _)); refine blk_far ?_ NB604_615.out _; (with_reducible repeat (first | refine blk_drewN ?_ _ | refine blk_drew ?_ | refine blk_alloc ?_ _)); refine blk_far ?_ NB604_615.out _; (with_reducible repeat (first | refine blk_drewN ?_ _ | refine blk_drew ?_ | refine blk_alloc ?_ _)); refine blk_far ?_ NB604_615.out _; (with_reducible repeat (first | refine blk_drewN ?_ _ | refine blk_drew ?_ | refine blk_alloc ?_ _)); exact BK604.out⟩, ⟨by (with_reducible repeat (first | refine blk_drewN ?_ _ | refine blk_drew ?_ | refine blk_alloc ?_ _)); refine blk_far ?_ NB605_615.out _; (with_reducible repeat (first | refine blk_drewN ?_ _ | refine blk_drew ?_ | refine blk_alloc ?_ _)); refine blk_far ?_ NB605_615.out _; (with_reducible repeat (first | refine blk_drewN ?_ _ | refine blk_drew ?_ | refine blk_alloc ?_ _)); refine blk_far ?_ NB605_615.out _; (with_reducible repeat (first | refine blk_drewN ?_ _ | refine blk_drew ?_ | refine blk_alloc ?_ _)); refine blk_far ?_ NB605_615.out _; (with_reducible repeat (first | refine blk_drewN ?_ _ | refine blk_drew ?_ | refine blk_alloc ?_ _)); exact BK605.out⟩, ⟨by (with_reducible repeat (first | refine blk_drewN ?_ _ | refine blk_drew ?_ | refine blk_alloc ?_ _)); refine blk_put (cs := #[.slice Ao24 t607.length co24, .slice Ao28 t610.length co28, .int .i64 t613, .int .i64 0]) ?_ 3 _ rfl; (with_reducible repeat (first | refine blk_drewN ?_ _ | refine blk_drew ?_ | refine blk_alloc ?_ _)); refine blk_put (cs := #[.slice Ao24 t607.length co24, .slice Ao28 t610.length co28, .int .i64 0, .int .i64 0]) ?_ 2 _ rfl; (with_reducible repeat (first | refine blk_drewN ?_ _ | refine blk_drew ?_ | refine blk_alloc ?_ _)); refine blk_put (cs := #[.slice Ao24 t607.length co24, .slice none 0 0, .int .i64 0, .int .i64 0]) ?_ 1 _ rfl; (with_reducible repeat (first | refine blk_drewN ?_ _ | refine blk_drew ?_ | refine blk_alloc ?_ _)); refine blk_put (cs := #[.slice none 0 0, .slice none 0 0, .int .i64 0, .int .i64 0]) ?_ 0 _ rfl; (with_reducible repeat (first | refine blk_drewN ?_ _ | refine blk_drew ?_ | refine blk_alloc ?_ _)); exact BK615.out⟩, ⟨by repeat (first | (with_reducible first | exact HB.out | apply below_alloc | apply pw_below_drewN | apply below_drew1 | refine below_set ?_ GE604.out | refine below_set ?_ GE605.out | refine below_set ?_ GE615.out) | exact HB.out)⟩⟩
        case round =>
          clear H'
          try clear c1
          try clear c2
          try clear p2
          try clear c3
          try clear c6
          try clear c8
          try clear c9
          try clear c10
          try clear c13
          try clear c16
          try clear c17
          try clear c20
          try clear c25
          try clear c26
          try clear hcz11_0
          try clear hcz11_1
          try clear hcz11_2
          try clear hcz11_3
          try clear hcz14_0
          try clear hcz14_1
          try clear hcz14_2
          try clear hcz14_3
          try clear hcz18_0
          try clear hcz18_1
          try clear hcz18_2
          try clear hcz18_3
          try clear hcz21_0
          try clear hcz21_1
          try clear hcz21_2
          try clear hcz21_3
          try clear hcz27_0
          try clear hcz27_1
          try clear hcz27_2
          try clear hcz27_3
          try clear hfz11_0
          try clear hfz11_1
          try clear hfz11_2
          try clear hfz11_3
          try clear hfz14_0
          try clear hfz14_1
          try clear hfz14_2
          try clear hfz14_3
          try clear hfz18_0
          try clear hfz18_1
          try clear hfz18_2
          try clear hfz18_3
          try clear hfz21_0
          try clear hfz21_1
          try clear hfz21_2
          try clear hfz21_3
          try clear hfz27_0
          try clear hfz27_1
          try clear hfz27_2
          try clear hfz27_3
          try clear p2
          obtain ⟨x10_2, x616000_2, u616000, rfl, HA, HK2, HO_616000, HO_616001, BK604, BK605, BK615, HB⟩ := hrel
          cases gk with
          | zero => exact absurd HA.out (by simp [spec_DiskCrash.l0])
          | succ k2 =>
            have H := HA.out
            clear HA
            simp only [spec_DiskCrash.l0] at H
            by_cases c29 : x10_2 < (l0_1.length : Int)
            · rw [if_pos c29] at H
              have c29b0 : decide (x10_2 < (l0_1.length : Int)) = true := decide_eq_true c29
              clear c29
              by_cases c30 : 0 ≤ x10_2
              · rw [if_pos c30] at H
                have c30b0 : decide (0 ≤ x10_2) = true := decide_eq_true c30
                clear c30
                replace H := Option.bind_eq_some_iff.mp H
                obtain ⟨t618, A310, H⟩ := H
                replace H : (if t618 = true then (if 0 ≤ ((rd_T54 l0_1 x10_2).f0) then (if ((rd_T54 l0_1 x10_2).f0) < (x616000_2.length : Int) then (spec_DiskCrash.l0 k2 a1 a2 a3 (wrap64 (x10_2 + 1)) l0_0 l0_1 a0_2 a0_3 (x616000_2.set (((rd_T54 l0_1 x10_2).f0) : Int).toNat ((rd_T54 l0_1 x10_2).f1)) t610 t613 t614) else (none)) else (none)) else (if x10_2 = a2 then (if 0 ≤ ((rd_T54 l0_1 x10_2).f0) then (if ((rd_T54 l0_1 x10_2).f0) < (x616000_2.length : Int) then ((spec_l7Torn.f ((rd_T54 l0_1 x10_2).f1) (rdOf ByteArray.empty x616000_2 ((rd_T54 l0_1 x10_2).f0)) a3).bind fun t621 => (spec_DiskCrash.l0 k2 a1 a2 a3 (wrap64 (x10_2 + 1)) l0_0 l0_1 a0_2 a0_3 (x616000_2.set (((rd_T54 l0_1 x10_2).f0) : Int).toNat t621) t610 t613 t614)) else (none)) else (none)) else (spec_DiskCrash.l0 k2 a1 a2 a3 (wrap64 (x10_2 + 1)) l0_0 l0_1 a0_2 a0_3 x616000_2 t610 t613 t614))) = some (r1, r2, r3, r4) := H
                have A31 := Aside0.mk A310
                clear A310
                by_cases c32 : t618 = true
                · subst c32
                  have H1 : (if 0 ≤ ((rd_T54 l0_1 x10_2).f0) then (if ((rd_T54 l0_1 x10_2).f0) < (x616000_2.length : Int) then (spec_DiskCrash.l0 k2 a1 a2 a3 (wrap64 (x10_2 + 1)) l0_0 l0_1 a0_2 a0_3 (x616000_2.set (((rd_T54 l0_1 x10_2).f0) : Int).toNat ((rd_T54 l0_1 x10_2).f1)) t610 t613 t614) else (none)) else (none)) = some (r1, r2, r3, r4) := by rw [if_pos rfl] at H; exact H
                  clear H
                  have H := H1
                  clear H1
                  by_cases c33 : 0 ≤ ((rd_T54 l0_1 x10_2).f0)
                  · rw [if_pos c33] at H
                    have c33b0 : decide (0 ≤ ((rd_T54 l0_1 x10_2).f0)) = true := decide_eq_true c33
                    clear c33
                    by_cases c34 : ((rd_T54 l0_1 x10_2).f0) < (x616000_2.length : Int)
                    · rw [if_pos c34] at H
                      have c34b0 : decide (((rd_T54 l0_1 x10_2).f0) < (x616000_2.length : Int)) = true := decide_eq_true c34
                      clear c34
                      obtain ⟨y619, hy619⟩ : ∃ y_ : List ByteArray, y_ = (x616000_2.set (((rd_T54 l0_1 x10_2).f0) : Int).toNat ((rd_T54 l0_1 x10_2).f1)) := ⟨_, rfl⟩
                      replace H : (spec_DiskCrash.l0 k2 a1 a2 a3 (wrap64 (x10_2 + 1)) l0_0 l0_1 a0_2 a0_3 y619 t610 t613 t614) = some (r1, r2, r3, r4) := by first | (rw [hy619]; with_reducible exact H) | (have H2_ := (Option.bind_some _ _).symm.trans H; rw [hy619]; with_reducible exact H2_) | (have H2_ := (Option.bind_some _ _).symm.trans H; with_reducible exact H2_) | with_reducible exact H | (rw [hy619]; exact H) | exact H
                      have Ny619 := Aside0.mk hy619
                      clear hy619
                      have H' := Aside0.mk H
                      clear H
                      have hnb36 := NB604_605.out
                      have hnc36 := NB605_604.out
                      have hnb37 := NB604_615.out
                      have hnc37 := NB615_604.out
                      have hcz38_0 : wr.cell? ⟨gb604, 0, none⟩ = some (.slice A0_0 l0_0.length c0_0) := (blk_cell BK604.out 0).trans rfl
                      have hcz38_1 : wr.cell? ⟨gb604, 1, none⟩ = some (.slice A0_1 l0_1.length c0_1) := (blk_cell BK604.out 1).trans rfl
                      have hcz38_2 : wr.cell? ⟨gb604, 2, none⟩ = some (.int .i64 a0_2) := (blk_cell BK604.out 2).trans rfl
                      have hcz38_3 : wr.cell? ⟨gb604, 3, none⟩ = some (.int .i64 a0_3) := (blk_cell BK604.out 3).trans rfl
                      have hfz38_0 := blk_frozen BK604.out 0
                      have hfz38_1 := blk_frozen BK604.out 1
                      have hfz38_2 := blk_frozen BK604.out 2
                      have hfz38_3 := blk_frozen BK604.out 3
                      have p616 : 0 ≤ (x10_2 : Int) := of_decide_eq_true (by first | (with_reducible assumption) | assumption)
                      have q616 : x10_2 < (l0_1.length : Int) := of_decide_eq_true (by first | (with_reducible assumption) | assumption)
                      obtain ⟨ad616, e616, hx616_0, hx616_1⟩ := at_T54 HR0_1.out x10_2 p616 q616
                      cases e616
                      replace hx616_0 := (HB.out.cell (World.block_lt_of_cell? w _ hx616_0)).trans hx616_0
                      replace hx616_1 := (HB.out.cell (World.block_lt_of_cell? w _ hx616_1)).trans hx616_1
                      replace p616 := eq_true p616
                      replace q616 := eq_true q616
                      go_wp2_with (first | ((with_reducible refine gate_dst (N := 11) rfl ?_); refine box_event ?hg (N := 11) ?hd (cs := #[.int .i64 0, .string (⟨#[]⟩ : ByteArray)]) (t := 54) ?hr ?_; (case hd => rfl); (case hg => rfl); (case hr => first | (go_simp; done) | (go_simp; rfl)); intro gb617 hg w39 hbox hb; have n0_ := Aside0.mk (Kd.R_below (by (with_reducible repeat (first | apply Kd.R_alloc | apply Kd.R_drewN | apply Kd.R_drew)); exact HO_616000.out) hb); have n1_ := Aside0.mk (Kd.R_below (Kd.R_elderB (by (with_reducible repeat (first | apply Kd.R_alloc | apply Kd.R_drewN | apply Kd.R_drew)); exact HO_616001.out) gb617 (Nat.le_of_eq hg.symm)) hb); have n2_ := Aside0.mk (blk_below (g := gb604) (o := .cells #[.slice A0_0 l0_0.length c0_0, .slice (some ad616) l0_1.length c0_1, .int .i64 a0_2, .int .i64 a0_3] 30 (0, 0)) (by (with_reducible repeat (first | refine blk_drewN ?_ _ | refine blk_drew ?_ | refine blk_alloc ?_ _)); exact BK604.out) hb); have n3_ := Aside0.mk (blk_below (g := gb605) (o := .cells #[.slice none 0 0, .slice none 0 0, .int .i64 0, .int .i64 0] 30 (0, 0)) (by (with_reducible repeat (first | refine blk_drewN ?_ _ | refine blk_drew ?_ | refine blk_alloc ?_ _)); exact BK605.out) hb); have n4_ := Aside0.mk (blk_below (g := gb615) (o := .cells #[u616000, .slice Ao28 t610.length co28, .int .i64 t613, .int .i64 t614] 30 (0, 0)) (by (with_reducible repeat (first | refine blk_drewN ?_ _ | refine blk_drew ?_ | refine blk_alloc ?_ _)); exact BK615.out) hb); have n5_ := Aside0.mk (below_step (by repeat (first | (with_reducible first | exact HB.out | apply below_alloc | apply pw_below_drewN | apply below_drew1 | refine below_set ?_ GE604.out | refine below_set ?_ GE605.out | refine below_set ?_ GE615.out) | exact HB.out)) hb); have n6_ := Aside0.mk (hbox); have n7_ := Aside0.mk ((by rw [hg]; exact (below_size (by repeat (first | (with_reducible first | exact HB.out | apply below_alloc | apply pw_below_drewN | apply below_drew1 | refine below_set ?_ GE604.out | refine below_set ?_ GE605.out | refine below_set ?_ GE615.out) | exact HB.out))) : w.heap.size ≤ gb617)); have n8_ := Aside0.mk ((by rw [hg]; exact (below_size (by repeat (first | (with_reducible first | exact HB.out | apply below_alloc | apply pw_below_drewN | apply below_drew1 | refine below_set ?_ GE604.out | refine below_set ?_ GE605.out | refine below_set ?_ GE615.out) | exact HB.out))) : w.heap.size ≤ gb617)); have n9_ := Aside0.mk ((by rw [hg]; exact Nat.ne_of_lt (blk_lt (g := gb604) (o := .cells #[.slice A0_0 l0_0.length c0_0, .slice (some ad616) l0_1.length c0_1, .int .i64 a0_2, .int .i64 a0_3] 30 (0, 0)) (by (with_reducible repeat (first | refine blk_drewN ?_ _ | refine blk_drew ?_ | refine blk_alloc ?_ _)); exact BK604.out)) : gb604 ≠ gb617)); have n10_ := Aside0.mk ((by rw [hg]; exact Nat.ne_of_gt (blk_lt (g := gb604) (o := .cells #[.slice A0_0 l0_0.length c0_0, .slice (some ad616) l0_1.length c0_1, .int .i64 a0_2, .int .i64 a0_3] 30 (0, 0)) (by (with_reducible repeat (first | refine blk_drewN ?_ _ | refine blk_drew ?_ | refine blk_alloc ?_ _)); exact BK604.out)) : gb617 ≠ gb604)); have n11_ := Aside0.mk ((by rw [hg]; exact Nat.ne_of_lt (blk_lt (g := gb605) (o := .cells #[.slice none 0 0, .slice none 0 0, .int .i64 0, .int .i64 0] 30 (0, 0)) (by (with_reducible repeat (first | refine blk_drewN ?_ _ | refine blk_drew ?_ | refine blk_alloc ?_ _)); exact BK605.out)) : gb605 ≠ gb617)); have n12_ := Aside0.mk ((by rw [hg]; exact Nat.ne_of_gt (blk_lt (g := gb605) (o := .cells #[.slice none 0 0, .slice none 0 0, .int .i64 0, .int .i64 0] 30 (0, 0)) (by (with_reducible repeat (first | refine blk_drewN ?_ _ | refine blk_drew ?_ | refine blk_alloc ?_ _)); exact BK605.out)) : gb617 ≠ gb605)); have n13_ := Aside0.mk ((by rw [hg]; exact Nat.ne_of_lt (blk_lt (g := gb615) (o := .cells #[u616000, .slice Ao28 t610.length co28, .int .i64 t613, .int .i64 t614] 30 (0, 0)) (by (with_reducible repeat (first | refine blk_drewN ?_ _ | refine blk_drew ?_ | refine blk_alloc ?_ _)); exact BK615.out)) : gb615 ≠ gb617)); have n14_ := Aside0.mk ((by rw [hg]; exact Nat.ne_of_gt (blk_lt (g := gb615) (o := .cells #[u616000, .slice Ao28 t610.length co28, .int .i64 t613, .int .i64 t614] 30 (0, 0)) (by (with_reducible repeat (first | refine blk_drewN ?_ _ | refine blk_drew ?_ | refine blk_alloc ?_ _)); exact BK615.out)) : gb617 ≠ gb615)); clear HO_616000; clear HO_616001; clear BK604; clear BK605; clear BK615; clear HB; have HO_616000 := n0_; have HO_616001 := n1_; have BK604 := n2_; have BK605 := n3_; have BK615 := n4_; have HB := n5_; have BK617 := n6_; have GW617 := n7_; have GE617 := n8_; have NB604_617 := n9_; have NB617_604 := n10_; have NB605_617 := n11_; have NB617_605 := n12_; have NB615_617 := n13_; have NB617_615 := n14_; clear n0_ n1_ n2_ n3_ n4_ n5_ n6_ n7_ n8_ n9_ n10_ n11_ n12_ n13_ n14_; clear hb hbox hg; have hnb40 := NB617_604.out; have hnc40 := NB604_617.out; have hnb41 := NB617_605.out; have hnc41 := NB605_617.out; have hnb42 := NB617_615.out; have hnc42 := NB615_617.out; have hcz43_0 : w39.cell? ⟨gb617, 0, none⟩ = some (.int .i64 0) := (blk_cell BK617.out 0).trans rfl; have hcz43_1 : w39.cell? ⟨gb617, 1, none⟩ = some (.string (⟨#[]⟩ : ByteArray)) := (blk_cell BK617.out 1).trans rfl; have hfz43_0 := blk_frozen BK617.out 0; have hfz43_1 := blk_frozen BK617.out 1) | ((with_reducible refine gate_store (t := 54) (p := 11) rfl ?_); refine store_event (t := 54) (p := 11) (v := ?vo_w44) (w1 := ((w39.setCell ⟨gb617, 0, none⟩ (.int .i64 ((rd_T54 l0_1 x10_2).f0))).setCell ⟨gb617, 1, none⟩ (.string ((rd_T54 l0_1 x10_2).f1)))) ?hg ?ho ?hn ?hr ?_; (case ho => rfl); (case hg => rfl); (case hn => rfl); (case hr => first | (go_simp; done) | (go_simp; rfl)); intro w44 hw; have n0_ : Aside0 (Kd.R Kd.string 9 w44 w.heap.size (fun _ => True) u616000 x616000_2) := ⟨(by rw [hw]; exact (by (with_reducible repeat (first | apply Kd.R_alloc | apply Kd.R_drewN | apply Kd.R_drew)); exact Kd.R_mono (Kd.R_far (p := ⟨gb617, 1, none⟩) (Kd.R_far (p := ⟨gb617, 0, none⟩) (Kd.R_types HO_616000.out BK617.out (by decide)) (fun _ hk => hk.2) (.int .i64 ((rd_T54 l0_1 x10_2).f0))) (fun _ hk => hk.2) (.string ((rd_T54 l0_1 x10_2).f1))) (fun _ hk => trivial)))⟩; have n1_ : Aside0 (Kd.R k54 54 w44 w.heap.size (fun k_ => k_ ≠ gb617) (.slice Ao28 t610.length co28) t610) := ⟨(by rw [hw]; exact (by (with_reducible repeat (first | apply Kd.R_alloc | apply Kd.R_drewN | apply Kd.R_drew)); exact Kd.R_mono (Kd.R_far (p := ⟨gb617, 1, none⟩) (Kd.R_far (p := ⟨gb617, 0, none⟩) (Kd.R_mono HO_616001.out (fun k_ hk => (⟨hk, hk.2⟩ : _ ∧ k_ ≠ gb617))) (fun _ hk => hk.2) (.int .i64 ((rd_T54 l0_1 x10_2).f0))) (fun _ hk => hk.2) (.string ((rd_T54 l0_1 x10_2).f1))) (fun _ hk => hk.1.2)))⟩; have n2_ : Aside0 (w44.heap[gb604]? = some (.cells #[.slice A0_0 l0_0.length c0_0, .slice (some ad616) l0_1.length c0_1, .int .i64 a0_2, .int .i64 a0_3] 30 (0, 0))) := ⟨(by rw [hw]; exact (by (with_reducible repeat (first | refine blk_drewN ?_ _ | refine blk_drew ?_ | refine blk_alloc ?_ _)); refine blk_far ?_ NB604_617.out _; (with_reducible repeat (first | refine blk_drewN ?_ _ | refine blk_drew ?_ | refine blk_alloc ?_ _)); refine blk_far ?_ NB604_617.out _; (with_reducible repeat (first | refine blk_drewN ?_ _ | refine blk_drew ?_ | refine blk_alloc ?_ _)); exact BK604.out))⟩; have n3_ : Aside0 (w44.heap[gb605]? = some (.cells #[.slice none 0 0, .slice none 0 0, .int .i64 0, .int .i64 0] 30 (0, 0))) := ⟨(by rw [hw]; exact (by (with_reducible repeat (first | refine blk_drewN ?_ _ | refine blk_drew ?_ | refine blk_alloc ?_ _)); refine blk_far ?_ NB605_617.out _; (with_reducible repeat (first | refine blk_drewN ?_ _ | refine blk_drew ?_ | refine blk_alloc ?_ _)); refine blk_far ?_ NB605_617.out _; (with_reducible repeat (first | refine blk_drewN ?_ _ | refine blk_drew ?_ | refine blk_alloc ?_ _)); exact BK605.out))⟩; have n4_ : Aside0 (w44.heap[gb615]? = some (.cells #[u616000, .slice Ao28 t610.length co28, .int .i64 t613, .int .i64 t614] 30 (0, 0))) := ⟨(by rw [hw]; exact (by (with_reducible repeat (first | refine blk_drewN ?_ _ | refine blk_drew ?_ | refine blk_alloc ?_ _)); refine blk_far ?_ NB615_617.out _; (with_reducible repeat (first | refine blk_drewN ?_ _ | refine blk_drew ?_ | refine blk_alloc ?_ _)); refine blk_far ?_ NB615_617.out _; (with_reducible repeat (first | refine blk_drewN ?_ _ | refine blk_drew ?_ | refine blk_alloc ?_ _)); exact BK615.out))⟩; have n5_ : Aside0 (w44.heap[gb617]? = some (.cells #[.int .i64 ((rd_T54 l0_1 x10_2).f0), .string ((rd_T54 l0_1 x10_2).f1)] 54 (0, 0))) := ⟨(by rw [hw]; exact (by (with_reducible repeat (first | refine blk_drewN ?_ _ | refine blk_drew ?_ | refine blk_alloc ?_ _)); refine blk_put (cs := #[.int .i64 ((rd_T54 l0_1 x10_2).f0), .string (⟨#[]⟩ : ByteArray)]) ?_ 1 _ rfl; (with_reducible repeat (first | refine blk_drewN ?_ _ | refine blk_drew ?_ | refine blk_alloc ?_ _)); refine blk_put (cs := #[.int .i64 0, .string (⟨#[]⟩ : ByteArray)]) ?_ 0 _ rfl; (with_reducible repeat (first | refine blk_drewN ?_ _ | refine blk_drew ?_ | refine blk_alloc ?_ _)); exact BK617.out))⟩; have n6_ : Aside0 (Below w.heap.size w w44) := ⟨(by rw [hw]; exact (by repeat (first | (with_reducible first | exact HB.out | apply below_alloc | apply pw_below_drewN | apply below_drew1 | refine below_set ?_ GE604.out | refine below_set ?_ GE605.out | refine below_set ?_ GE615.out | refine below_set ?_ GE617.out) | exact HB.out)))⟩; clear hw; clear HO_616000; clear HO_616001; clear BK604; clear BK605; clear BK615; clear BK617; clear HB; have HO_616000 := n0_; have HO_616001 := n1_; have BK604 := n2_; have BK605 := n3_; have BK615 := n4_; have BK617 := n5_; have HB := n6_; clear n0_ n1_ n2_ n3_ n4_ n5_ n6_) | ((with_reducible refine gate_callee (f := 85) rfl ?_); refine goesL_ (some 36) rfl rfl Try.func85 (by kernel_rfl) rfl #[.int .i64 a1, .int .i64 x10_2] rfl (by (try simp only [List.map_toArray, List.map_cons, List.map_nil]); first | done | rfl | (simp only [List.length_drop, List.length_take]; rfl)) ?_; (with_reducible refine (spec_l7Bit.calls k2 a1 x10_2 true _ A31.out).mono ?_); rintro e w' ⟨rfl, ⟨nd, rfl⟩⟩; refine ⟨_, rfl, ?_⟩; (try (rw [drewN_self w44]; generalize hq_ : World.drewN w44 _ = w44; have n0_ : Aside0 (Kd.R Kd.string 9 w44 w.heap.size (fun _ => True) u616000 x616000_2) := ⟨by rw [← hq_]; exact (by (with_reducible repeat (first | apply Kd.R_alloc | apply Kd.R_drewN | apply Kd.R_drew)); exact HO_616000.out)⟩; have n1_ : Aside0 (Kd.R k54 54 w44 w.heap.size (fun k_ => k_ ≠ gb617) (.slice Ao28 t610.length co28) t610) := ⟨by rw [← hq_]; exact (by (with_reducible repeat (first | apply Kd.R_alloc | apply Kd.R_drewN | apply Kd.R_drew)); exact HO_616001.out)⟩; have n2_ : Aside0 (w44.heap[gb604]? = some (.cells #[.slice A0_0 l0_0.length c0_0, .slice (some ad616) l0_1.length c0_1, .int .i64 a0_2, .int .i64 a0_3] 30 (0, 0))) := ⟨by rw [← hq_]; exact (by (with_reducible repeat (first | refine blk_drewN ?_ _ | refine blk_drew ?_ | refine blk_alloc ?_ _)); exact BK604.out)⟩; have n3_ : Aside0 (w44.heap[gb605]? = some (.cells #[.slice none 0 0, .slice none 0 0, .int .i64 0, .int .i64 0] 30 (0, 0))) := ⟨by rw [← hq_]; exact (by (with_reducible repeat (first | refine blk_drewN ?_ _ | refine blk_drew ?_ | refine blk_alloc ?_ _)); exact BK605.out)⟩; have n4_ : Aside0 (w44.heap[gb615]? = some (.cells #[u616000, .slice Ao28 t610.length co28, .int .i64 t613, .int .i64 t614] 30 (0, 0))) := ⟨by rw [← hq_]; exact (by (with_reducible repeat (first | refine blk_drewN ?_ _ | refine blk_drew ?_ | refine blk_alloc ?_ _)); exact BK615.out)⟩; have n5_ : Aside0 (w44.heap[gb617]? = some (.cells #[.int .i64 ((rd_T54 l0_1 x10_2).f0), .string ((rd_T54 l0_1 x10_2).f1)] 54 (0, 0))) := ⟨by rw [← hq_]; exact (by (with_reducible repeat (first | refine blk_drewN ?_ _ | refine blk_drew ?_ | refine blk_alloc ?_ _)); exact BK617.out)⟩; have n6_ : Aside0 (Below w.heap.size w w44) := ⟨by rw [← hq_]; exact (by repeat (first | (with_reducible first | exact HB.out | apply below_alloc | apply pw_below_drewN | apply below_drew1 | refine below_set ?_ GE604.out | refine below_set ?_ GE605.out | refine below_set ?_ GE615.out | refine below_set ?_ GE617.out) | exact HB.out))⟩; clear HO_616000 HO_616001 BK604 BK605 BK615 BK617 HB hq_; have HO_616000 := n0_; have HO_616001 := n1_; have BK604 := n2_; have BK605 := n3_; have BK615 := n4_; have BK617 := n5_; have HB := n6_; clear n0_ n1_ n2_ n3_ n4_ n5_ n6_)); have hnb45 := NB615_605.out; have hnc45 := NB605_615.out; have hcz46_0 : w44.cell? ⟨gb615, 0, none⟩ = some (u616000) := (blk_cell BK615.out 0).trans rfl; have hcz46_1 : w44.cell? ⟨gb615, 1, none⟩ = some (.slice Ao28 t610.length co28) := (blk_cell BK615.out 1).trans rfl; have hcz46_2 : w44.cell? ⟨gb615, 2, none⟩ = some (.int .i64 t613) := (blk_cell BK615.out 2).trans rfl; have hcz46_3 : w44.cell? ⟨gb615, 3, none⟩ = some (.int .i64 t614) := (blk_cell BK615.out 3).trans rfl; have hfz46_0 := blk_frozen BK615.out 0; have hfz46_1 := blk_frozen BK615.out 1; have hfz46_2 := blk_frozen BK615.out 2; have hfz46_3 := blk_frozen BK615.out 3; have hcz47_0 : w44.cell? ⟨gb617, 0, none⟩ = some (.int .i64 ((rd_T54 l0_1 x10_2).f0)) := (blk_cell BK617.out 0).trans rfl; have hcz47_1 : w44.cell? ⟨gb617, 1, none⟩ = some (.string ((rd_T54 l0_1 x10_2).f1)) := (blk_cell BK617.out 1).trans rfl; have hfz47_0 := blk_frozen BK617.out 0; have hfz47_1 := blk_frozen BK617.out 1; have p35 : 0 ≤ (((rd_T54 l0_1 x10_2).f0) : Int) := of_decide_eq_true (by first | (with_reducible assumption) | assumption); have q35 : (((rd_T54 l0_1 x10_2).f0) : Int) < ((x616000_2.length : Int) : Int) := of_decide_eq_true (by first | (with_reducible assumption) | assumption); obtain ⟨go35, co35, eo35, gb35, gl35, cl35, HG35⟩ := Kd.R_form HO_616000.out (by omega); (first | cases eo35 | (injection eo35 with ea_ en_ ec_; (first | subst ea_ | (injection ea_ with ea_; subst ea_)); subst ec_; clear en_)); have GB35 := Aside0.mk gb35; have GG35 := Aside0.mk HG35; clear gb35 gl35 HG35; obtain ⟨hx35_0, hf35_0⟩ := Kd.R_celln (⟨#[]⟩ : ByteArray) HO_616000.out (((rd_T54 l0_1 x10_2).f0) : Int) p35 q35; replace p35 := eq_true p35; replace q35 := eq_true q35; obtain ⟨hy48_, hz48_⟩ := Kd.R_celln (⟨#[]⟩ : ByteArray) HO_616000.out (((rd_T54 l0_1 x10_2).f0) : Int) (of_decide_eq_true (by first | (with_reducible assumption) | assumption)) (of_decide_eq_true (by first | (with_reducible assumption) | assumption)); have HP48 := Kd.R_putg HO_616000.out (((rd_T54 l0_1 x10_2).f0) : Int) ((rd_T54 l0_1 x10_2).f1)) | ((with_reducible refine gate_store (t := 9) (p := 43) rfl ?_); refine store_event (t := 9) (p := 43) (v := ?vo_w49) (w1 := (w44.setCell ⟨go35, (((rd_T54 l0_1 x10_2).f0) : Int).toNat, none⟩ (.string ((rd_T54 l0_1 x10_2).f1)))) ?hg ?ho ?hn ?hr ?_; (case ho => rfl); (case hg => rfl); (case hn => rfl); (case hr => first | (go_simp; done) | (go_simp; rfl)); intro w49 hw; have hg : w44.grownBy w49 (some go35) := (by rw [hw]; exact HP48.2); have hp_ : Kd.R Kd.string 9 w49 w.heap.size (fun _ => True) (.slice (some ⟨go35, 0, none⟩) x616000_2.length co35) y619 := (by rw [hw, Ny619.out]; exact HP48.1); clear HP48; have n0_ := Aside0.mk (hp_); have n1_ := Aside0.mk (Kd.R_over' (v := (.slice (some ⟨go35, 0, none⟩) x616000_2.length co35)) (by (with_reducible repeat (first | apply Kd.R_alloc | apply Kd.R_drewN | apply Kd.R_drew)); exact HO_616001.out) (Kd.R_typed HO_616000.out) (by decide) hg); have n2_ := Aside0.mk (blk_grown (g := gb604) (o := .cells #[.slice A0_0 l0_0.length c0_0, .slice (some ad616) l0_1.length c0_1, .int .i64 a0_2, .int .i64 a0_3] 30 (0, 0)) (by (with_reducible repeat (first | refine blk_drewN ?_ _ | refine blk_drew ?_ | refine blk_alloc ?_ _)); exact BK604.out) hg (Kd.R_ne HO_616000.out BK604.out (by decide))); have n3_ := Aside0.mk (blk_grown (g := gb605) (o := .cells #[.slice none 0 0, .slice none 0 0, .int .i64 0, .int .i64 0] 30 (0, 0)) (by (with_reducible repeat (first | refine blk_drewN ?_ _ | refine blk_drew ?_ | refine blk_alloc ?_ _)); exact BK605.out) hg (Kd.R_ne HO_616000.out BK605.out (by decide))); have n4_ := Aside0.mk (blk_grown (g := gb615) (o := .cells #[.slice (some ⟨go35, 0, none⟩) x616000_2.length co35, .slice Ao28 t610.length co28, .int .i64 t613, .int .i64 t614] 30 (0, 0)) (by (with_reducible repeat (first | refine blk_drewN ?_ _ | refine blk_drew ?_ | refine blk_alloc ?_ _)); exact BK615.out) hg (Kd.R_ne HO_616000.out BK615.out (by decide))); have n5_ := Aside0.mk (blk_grown (g := gb617) (o := .cells #[.int .i64 ((rd_T54 l0_1 x10_2).f0), .string ((rd_T54 l0_1 x10_2).f1)] 54 (0, 0)) (by (with_reducible repeat (first | refine blk_drewN ?_ _ | refine blk_drew ?_ | refine blk_alloc ?_ _)); exact BK617.out) hg (Kd.R_ne HO_616000.out BK617.out (by decide))); have n6_ := Aside0.mk ((by rw [hw]; exact below_set (HB.out) GB35.out : Below w.heap.size w w49)); clear HO_616000; clear HO_616001; clear BK604; clear BK605; clear BK615; clear BK617; clear HB; have HO_616000 := n0_; have HO_616001 := n1_; have BK604 := n2_; have BK605 := n3_; have BK615 := n4_; have BK617 := n5_; have HB := n6_; clear n0_ n1_ n2_ n3_ n4_ n5_ n6_; clear hg hw hp_))
                      go_roundg k2
                      case measure => have := HJ4.out; have := HK2.out; omega
                      case rel => exact ⟨(wrap64 (x10_2 + 1)), (y619), (.slice (some ⟨go35, 0, none⟩) x616000_2.length co35), (by first | rfl | (simp; done) | (simp [*]; done)), H', ⟨by have := HJ4.out; have := HK2.out; omega⟩, ⟨by (with_reducible repeat (first | apply Kd.R_alloc | apply Kd.R_drewN | apply Kd.R_drew)); exact HO_616000.out⟩, ⟨by (with_reducible repeat (first | apply Kd.R_alloc | apply Kd.R_drewN | apply Kd.R_drew)); exact Kd.R_mono HO_616001.out (fun _ hk => trivial)⟩, ⟨by (with_reducible repeat (first | refine blk_drewN ?_ _ | refine blk_drew ?_ | refine blk_alloc ?_ _)); exact BK604.out⟩, ⟨by (with_reducible repeat (first | refine blk_drewN ?_ _ | refine blk_drew ?_ | refine blk_alloc ?_ _)); exact BK605.out⟩, ⟨by (with_reducible repeat (first | refine blk_drewN ?_ _ | refine blk_drew ?_ | refine blk_alloc ?_ _)); exact BK615.out⟩, ⟨by repeat (first | (with_reducible first | exact HB.out | apply below_alloc | apply pw_below_drewN | apply below_drew1 | refine below_set ?_ GE604.out | refine below_set ?_ GE605.out | refine below_set ?_ GE615.out | refine below_set ?_ GE617.out) | exact HB.out)⟩⟩
                    · rw [if_neg c34] at H
                      exact absurd H (by simp)
                  · rw [if_neg c33] at H
                    exact absurd H (by simp)
                · replace c32 := Bool.eq_false_iff.mpr c32
                  subst c32
                  have H1 : (if x10_2 = a2 then (if 0 ≤ ((rd_T54 l0_1 x10_2).f0) then (if ((rd_T54 l0_1 x10_2).f0) < (x616000_2.length : Int) then ((spec_l7Torn.f ((rd_T54 l0_1 x10_2).f1) (rdOf ByteArray.empty x616000_2 ((rd_T54 l0_1 x10_2).f0)) a3).bind fun t621 => (spec_DiskCrash.l0 k2 a1 a2 a3 (wrap64 (x10_2 + 1)) l0_0 l0_1 a0_2 a0_3 (x616000_2.set (((rd_T54 l0_1 x10_2).f0) : Int).toNat t621) t610 t613 t614)) else (none)) else (none)) else (spec_DiskCrash.l0 k2 a1 a2 a3 (wrap64 (x10_2 + 1)) l0_0 l0_1 a0_2 a0_3 x616000_2 t610 t613 t614)) = some (r1, r2, r3, r4) := by rw [if_neg (show ¬ (false = true) by decide)] at H; exact H
                  clear H
                  have H := H1
                  clear H1
                  by_cases c50 : x10_2 = a2
                  · rw [if_pos c50] at H
                    have c50b0 : (x10_2 == a2) = true := beq_iff_eq.mpr c50
                    have c50b1 : (x10_2 != a2) = false := bne_eq_false_iff_eq.mpr c50
                    clear c50
                    by_cases c51 : 0 ≤ ((rd_T54 l0_1 x10_2).f0)
                    · rw [if_pos c51] at H
                      have c51b0 : decide (0 ≤ ((rd_T54 l0_1 x10_2).f0)) = true := decide_eq_true c51
                      clear c51
                      by_cases c52 : ((rd_T54 l0_1 x10_2).f0) < (x616000_2.length : Int)
                      · rw [if_pos c52] at H
                        have c52b0 : decide (((rd_T54 l0_1 x10_2).f0) < (x616000_2.length : Int)) = true := decide_eq_true c52
                        clear c52
                        replace H := Option.bind_eq_some_iff.mp H
                        obtain ⟨t621, A530, H⟩ := H
                        replace H : (spec_DiskCrash.l0 k2 a1 a2 a3 (wrap64 (x10_2 + 1)) l0_0 l0_1 a0_2 a0_3 (x616000_2.set (((rd_T54 l0_1 x10_2).f0) : Int).toNat t621) t610 t613 t614) = some (r1, r2, r3, r4) := H
                        have A53 := Aside0.mk A530
                        clear A530
                        obtain ⟨y622, hy622⟩ : ∃ y_ : List ByteArray, y_ = (x616000_2.set (((rd_T54 l0_1 x10_2).f0) : Int).toNat t621) := ⟨_, rfl⟩
                        replace H : (spec_DiskCrash.l0 k2 a1 a2 a3 (wrap64 (x10_2 + 1)) l0_0 l0_1 a0_2 a0_3 y622 t610 t613 t614) = some (r1, r2, r3, r4) := by first | (rw [hy622]; with_reducible exact H) | (have H2_ := (Option.bind_some _ _).symm.trans H; rw [hy622]; with_reducible exact H2_) | (have H2_ := (Option.bind_some _ _).symm.trans H; with_reducible exact H2_) | with_reducible exact H | (rw [hy622]; exact H) | exact H
                        have Ny622 := Aside0.mk hy622
                        clear hy622
                        have H' := Aside0.mk H
                        clear H
                        have hnb55 := NB604_605.out
                        have hnc55 := NB605_604.out
                        have hnb56 := NB604_615.out
                        have hnc56 := NB615_604.out
                        have hcz57_0 : wr.cell? ⟨gb604, 0, none⟩ = some (.slice A0_0 l0_0.length c0_0) := (blk_cell BK604.out 0).trans rfl
                        have hcz57_1 : wr.cell? ⟨gb604, 1, none⟩ = some (.slice A0_1 l0_1.length c0_1) := (blk_cell BK604.out 1).trans rfl
                        have hcz57_2 : wr.cell? ⟨gb604, 2, none⟩ = some (.int .i64 a0_2) := (blk_cell BK604.out 2).trans rfl
                        have hcz57_3 : wr.cell? ⟨gb604, 3, none⟩ = some (.int .i64 a0_3) := (blk_cell BK604.out 3).trans rfl
                        have hfz57_0 := blk_frozen BK604.out 0
                        have hfz57_1 := blk_frozen BK604.out 1
                        have hfz57_2 := blk_frozen BK604.out 2
                        have hfz57_3 := blk_frozen BK604.out 3
                        have p616 : 0 ≤ (x10_2 : Int) := of_decide_eq_true (by first | (with_reducible assumption) | assumption)
                        have q616 : x10_2 < (l0_1.length : Int) := of_decide_eq_true (by first | (with_reducible assumption) | assumption)
                        obtain ⟨ad616, e616, hx616_0, hx616_1⟩ := at_T54 HR0_1.out x10_2 p616 q616
                        cases e616
                        replace hx616_0 := (HB.out.cell (World.block_lt_of_cell? w _ hx616_0)).trans hx616_0
                        replace hx616_1 := (HB.out.cell (World.block_lt_of_cell? w _ hx616_1)).trans hx616_1
                        replace p616 := eq_true p616
                        replace q616 := eq_true q616
                        try go_wp2_with (first | ((with_reducible refine gate_dst (N := 11) rfl ?_); refine box_event ?hg (N := 11) ?hd (cs := #[.int .i64 0, .string (⟨#[]⟩ : ByteArray)]) (t := 54) ?hr ?_; (case hd => rfl); (case hg => rfl); (case hr => first | (go_simp; done) | (go_simp; rfl)); intro gb617 hg w58 hbox hb; have n0_ := Aside0.mk (Kd.R_below (by (with_reducible repeat (first | apply Kd.R_alloc | apply Kd.R_drewN | apply Kd.R_drew)); exact HO_616000.out) hb); have n1_ := Aside0.mk (Kd.R_below (Kd.R_elderB (by (with_reducible repeat (first | apply Kd.R_alloc | apply Kd.R_drewN | apply Kd.R_drew)); exact HO_616001.out) gb617 (Nat.le_of_eq hg.symm)) hb); have n2_ := Aside0.mk (blk_below (g := gb604) (o := .cells #[.slice A0_0 l0_0.length c0_0, .slice (some ad616) l0_1.length c0_1, .int .i64 a0_2, .int .i64 a0_3] 30 (0, 0)) (by (with_reducible repeat (first | refine blk_drewN ?_ _ | refine blk_drew ?_ | refine blk_alloc ?_ _)); exact BK604.out) hb); have n3_ := Aside0.mk (blk_below (g := gb605) (o := .cells #[.slice none 0 0, .slice none 0 0, .int .i64 0, .int .i64 0] 30 (0, 0)) (by (with_reducible repeat (first | refine blk_drewN ?_ _ | refine blk_drew ?_ | refine blk_alloc ?_ _)); exact BK605.out) hb); have n4_ := Aside0.mk (blk_below (g := gb615) (o := .cells #[u616000, .slice Ao28 t610.length co28, .int .i64 t613, .int .i64 t614] 30 (0, 0)) (by (with_reducible repeat (first | refine blk_drewN ?_ _ | refine blk_drew ?_ | refine blk_alloc ?_ _)); exact BK615.out) hb); have n5_ := Aside0.mk (below_step (by repeat (first | (with_reducible first | exact HB.out | apply below_alloc | apply pw_below_drewN | apply below_drew1 | refine below_set ?_ GE604.out | refine below_set ?_ GE605.out | refine below_set ?_ GE615.out) | exact HB.out)) hb); have n6_ := Aside0.mk (hbox); have n7_ := Aside0.mk ((by rw [hg]; exact (below_size (by repeat (first | (with_reducible first | exact HB.out | apply below_alloc | apply pw_below_drewN | apply below_drew1 | refine below_set ?_ GE604.out | refine below_set ?_ GE605.out | refine below_set ?_ GE615.out) | exact HB.out))) : w.heap.size ≤ gb617)); have n8_ := Aside0.mk ((by rw [hg]; exact (below_size (by repeat (first | (with_reducible first | exact HB.out | apply below_alloc | apply pw_below_drewN | apply below_drew1 | refine below_set ?_ GE604.out | refine below_set ?_ GE605.out | refine below_set ?_ GE615.out) | exact HB.out))) : w.heap.size ≤ gb617)); have n9_ := Aside0.mk ((by rw [hg]; exact Nat.ne_of_lt (blk_lt (g := gb604) (o := .cells #[.slice A0_0 l0_0.length c0_0, .slice (some ad616) l0_1.length c0_1, .int .i64 a0_2, .int .i64 a0_3] 30 (0, 0)) (by (with_reducible repeat (first | refine blk_drewN ?_ _ | refine blk_drew ?_ | refine blk_alloc ?_ _)); exact BK604.out)) : gb604 ≠ gb617)); have n10_ := Aside0.mk ((by rw [hg]; exact Nat.ne_of_gt (blk_lt (g := gb604) (o := .cells #[.slice A0_0 l0_0.length c0_0, .slice (some ad616) l0_1.length c0_1, .int .i64 a0_2, .int .i64 a0_3] 30 (0, 0)) (by (with_reducible repeat (first | refine blk_drewN ?_ _ | refine blk_drew ?_ | refine blk_alloc ?_ _)); exact BK604.out)) : gb617 ≠ gb604)); have n11_ := Aside0.mk ((by rw [hg]; exact Nat.ne_of_lt (blk_lt (g := gb605) (o := .cells #[.slice none 0 0, .slice none 0 0, .int .i64 0, .int .i64 0] 30 (0, 0)) (by (with_reducible repeat (first | refine blk_drewN ?_ _ | refine blk_drew ?_ | refine blk_alloc ?_ _)); exact BK605.out)) : gb605 ≠ gb617)); have n12_ := Aside0.mk ((by rw [hg]; exact Nat.ne_of_gt (blk_lt (g := gb605) (o := .cells #[.slice none 0 0, .slice none 0 0, .int .i64 0, .int .i64 0] 30 (0, 0)) (by (with_reducible repeat (first | refine blk_drewN ?_ _ | refine blk_drew ?_ | refine blk_alloc ?_ _)); exact BK605.out)) : gb617 ≠ gb605)); have n13_ := Aside0.mk ((by rw [hg]; exact Nat.ne_of_lt (blk_lt (g := gb615) (o := .cells #[u616000, .slice Ao28 t610.length co28, .int .i64 t613, .int .i64 t614] 30 (0, 0)) (by (with_reducible repeat (first | refine blk_drewN ?_ _ | refine blk_drew ?_ | refine blk_alloc ?_ _)); exact BK615.out)) : gb615 ≠ gb617)); have n14_ := Aside0.mk ((by rw [hg]; exact Nat.ne_of_gt (blk_lt (g := gb615) (o := .cells #[u616000, .slice Ao28 t610.length co28, .int .i64 t613, .int .i64 t614] 30 (0, 0)) (by (with_reducible repeat (first | refine blk_drewN ?_ _ | refine blk_drew ?_ | refine blk_alloc ?_ _)); exact BK615.out)) : gb617 ≠ gb615)); clear HO_616000; clear HO_616001; clear BK604; clear BK605; clear BK615; clear HB; have HO_616000 := n0_; have HO_616001 := n1_; have BK604 := n2_; have BK605 := n3_; have BK615 := n4_; have HB := n5_; have BK617 := n6_; have GW617 := n7_; have GE617 := n8_; have NB604_617 := n9_; have NB617_604 := n10_; have NB605_617 := n11_; have NB617_605 := n12_; have NB615_617 := n13_; have NB617_615 := n14_; clear n0_ n1_ n2_ n3_ n4_ n5_ n6_ n7_ n8_ n9_ n10_ n11_ n12_ n13_ n14_; clear hb hbox hg; have hnb59 := NB617_604.out; have hnc59 := NB604_617.out; have hnb60 := NB617_605.out; have hnc60 := NB605_617.out; have hnb61 := NB617_615.out; have hnc61 := NB615_617.out; have hcz62_0 : w58.cell? ⟨gb617, 0, none⟩ = some (.int .i64 0) := (blk_cell BK617.out 0).trans rfl; have hcz62_1 : w58.cell? ⟨gb617, 1, none⟩ = some (.string (⟨#[]⟩ : ByteArray)) := (blk_cell BK617.out 1).trans rfl; have hfz62_0 := blk_frozen BK617.out 0; have hfz62_1 := blk_frozen BK617.out 1) | ((with_reducible refine gate_callee (f := 85) rfl ?_); refine goesL_ (some 36) rfl rfl Try.func85 (by kernel_rfl) rfl #[.int .i64 a1, .int .i64 x10_2] rfl (by (try simp only [List.map_toArray, List.map_cons, List.map_nil]); first | done | rfl | (simp only [List.length_drop, List.length_take]; rfl)) ?_; (with_reducible refine (spec_l7Bit.calls k2 a1 x10_2 false _ A31.out).mono ?_); rintro e w' ⟨rfl, ⟨nd, rfl⟩⟩; refine ⟨_, rfl, ?_⟩))
                        have n0_ : Aside0 (Kd.R Kd.string 9 ((w58.setCell ⟨gb617, 0, none⟩ (.int .i64 ((rd_T54 l0_1 x10_2).f0))).setCell ⟨gb617, 1, none⟩ (.string ((rd_T54 l0_1 x10_2).f1))) w.heap.size (fun _ => True) u616000 x616000_2) := ⟨by (with_reducible repeat (first | apply Kd.R_alloc | apply Kd.R_drewN | apply Kd.R_drew)); exact Kd.R_mono (Kd.R_far (p := ⟨gb617, 1, none⟩) (Kd.R_far (p := ⟨gb617, 0, none⟩) (Kd.R_types HO_616000.out BK617.out (by decide)) (fun _ hk => hk.2) (.int .i64 ((rd_T54 l0_1 x10_2).f0))) (fun _ hk => hk.2) (.string ((rd_T54 l0_1 x10_2).f1))) (fun _ hk => trivial)⟩
                        have n1_ : Aside0 (Kd.R k54 54 ((w58.setCell ⟨gb617, 0, none⟩ (.int .i64 ((rd_T54 l0_1 x10_2).f0))).setCell ⟨gb617, 1, none⟩ (.string ((rd_T54 l0_1 x10_2).f1))) w.heap.size (fun k_ => k_ ≠ gb617) (.slice Ao28 t610.length co28) t610) := ⟨by (with_reducible repeat (first | apply Kd.R_alloc | apply Kd.R_drewN | apply Kd.R_drew)); exact Kd.R_mono (Kd.R_far (p := ⟨gb617, 1, none⟩) (Kd.R_far (p := ⟨gb617, 0, none⟩) (Kd.R_mono HO_616001.out (fun k_ hk => (⟨hk, hk.2⟩ : _ ∧ k_ ≠ gb617))) (fun _ hk => hk.2) (.int .i64 ((rd_T54 l0_1 x10_2).f0))) (fun _ hk => hk.2) (.string ((rd_T54 l0_1 x10_2).f1))) (fun _ hk => hk.1.2)⟩
                        have n2_ : Aside0 (((w58.setCell ⟨gb617, 0, none⟩ (.int .i64 ((rd_T54 l0_1 x10_2).f0))).setCell ⟨gb617, 1, none⟩ (.string ((rd_T54 l0_1 x10_2).f1))).heap[gb604]? = some (.cells #[.slice A0_0 l0_0.length c0_0, .slice (some ad616) l0_1.length c0_1, .int .i64 a0_2, .int .i64 a0_3] 30 (0, 0))) := ⟨by (with_reducible repeat (first | refine blk_drewN ?_ _ | refine blk_drew ?_ | refine blk_alloc ?_ _)); refine blk_far ?_ NB604_617.out _; (with_reducible repeat (first | refine blk_drewN ?_ _ | refine blk_drew ?_ | refine blk_alloc ?_ _)); refine blk_far ?_ NB604_617.out _; (with_reducible repeat (first | refine blk_drewN ?_ _ | refine blk_drew ?_ | refine blk_alloc ?_ _)); exact BK604.out⟩
                        have n3_ : Aside0 (((w58.setCell ⟨gb617, 0, none⟩ (.int .i64 ((rd_T54 l0_1 x10_2).f0))).setCell ⟨gb617, 1, none⟩ (.string ((rd_T54 l0_1 x10_2).f1))).heap[gb605]? = some (.cells #[.slice none 0 0, .slice none 0 0, .int .i64 0, .int .i64 0] 30 (0, 0))) := ⟨by (with_reducible repeat (first | refine blk_drewN ?_ _ | refine blk_drew ?_ | refine blk_alloc ?_ _)); refine blk_far ?_ NB605_617.out _; (with_reducible repeat (first | refine blk_drewN ?_ _ | refine blk_drew ?_ | refine blk_alloc ?_ _)); refine blk_far ?_ NB605_617.out _; (with_reducible repeat (first | refine blk_drewN ?_ _ | refine blk_drew ?_ | refine blk_alloc ?_ _)); exact BK605.out⟩
                        have n4_ : Aside0 (((w58.setCell ⟨gb617, 0, none⟩ (.int .i64 ((rd_T54 l0_1 x10_2).f0))).setCell ⟨gb617, 1, none⟩ (.string ((rd_T54 l0_1 x10_2).f1))).heap[gb615]? = some (.cells #[u616000, .slice Ao28 t610.length co28, .int .i64 t613, .int .i64 t614] 30 (0, 0))) := ⟨by (with_reducible repeat (first | refine blk_drewN ?_ _ | refine blk_drew ?_ | refine blk_alloc ?_ _)); refine blk_far ?_ NB615_617.out _; (with_reducible repeat (first | refine blk_drewN ?_ _ | refine blk_drew ?_ | refine blk_alloc ?_ _)); refine blk_far ?_ NB615_617.out _; (with_reducible repeat (first | refine blk_drewN ?_ _ | refine blk_drew ?_ | refine blk_alloc ?_ _)); exact BK615.out⟩
                        have n5_ : Aside0 (((w58.setCell ⟨gb617, 0, none⟩ (.int .i64 ((rd_T54 l0_1 x10_2).f0))).setCell ⟨gb617, 1, none⟩ (.string ((rd_T54 l0_1 x10_2).f1))).heap[gb617]? = some (.cells #[.int .i64 ((rd_T54 l0_1 x10_2).f0), .string ((rd_T54 l0_1 x10_2).f1)] 54 (0, 0))) := ⟨by (with_reducible repeat (first | refine blk_drewN ?_ _ | refine blk_drew ?_ | refine blk_alloc ?_ _)); refine blk_put (cs := #[.int .i64 ((rd_T54 l0_1 x10_2).f0), .string (⟨#[]⟩ : ByteArray)]) ?_ 1 _ rfl; (with_reducible repeat (first | refine blk_drewN ?_ _ | refine blk_drew ?_ | refine blk_alloc ?_ _)); refine blk_put (cs := #[.int .i64 0, .string (⟨#[]⟩ : ByteArray)]) ?_ 0 _ rfl; (with_reducible repeat (first | refine blk_drewN ?_ _ | refine blk_drew ?_ | refine blk_alloc ?_ _)); exact BK617.out⟩
                        have n6_ : Aside0 (Below w.heap.size w ((w58.setCell ⟨gb617, 0, none⟩ (.int .i64 ((rd_T54 l0_1 x10_2).f0))).setCell ⟨gb617, 1, none⟩ (.string ((rd_T54 l0_1 x10_2).f1)))) := ⟨by repeat (first | (with_reducible first | exact HB.out | apply below_alloc | apply pw_below_drewN | apply below_drew1 | refine below_set ?_ GE604.out | refine below_set ?_ GE605.out | refine below_set ?_ GE615.out | refine below_set ?_ GE617.out) | exact HB.out)⟩
                        (try clear HO_616000)
                        (try clear HO_616001)
                        (try clear BK604)
                        (try clear BK605)
                        (try clear BK615)
                        (try clear BK617)
                        (try clear HB)
                        generalize ((w58.setCell ⟨gb617, 0, none⟩ (.int .i64 ((rd_T54 l0_1 x10_2).f0))).setCell ⟨gb617, 1, none⟩ (.string ((rd_T54 l0_1 x10_2).f1))) = w63 at n0_ n1_ n2_ n3_ n4_ n5_ n6_ ⊢
                        have HO_616000 := n0_
                        have HO_616001 := n1_
                        have BK604 := n2_
                        have BK605 := n3_
                        have BK615 := n4_
                        have BK617 := n5_
                        have HB := n6_
                        clear n0_ n1_ n2_ n3_ n4_ n5_ n6_
                        (try (rw [drewN_self w63]; generalize hq_ : World.drewN w63 _ = w63; have n0_ : Aside0 (Kd.R Kd.string 9 w63 w.heap.size (fun _ => True) u616000 x616000_2) := ⟨by rw [← hq_]; exact (by (with_reducible repeat (first | apply Kd.R_alloc | apply Kd.R_drewN | apply Kd.R_drew)); exact HO_616000.out)⟩; have n1_ : Aside0 (Kd.R k54 54 w63 w.heap.size (fun k_ => k_ ≠ gb617) (.slice Ao28 t610.length co28) t610) := ⟨by rw [← hq_]; exact (by (with_reducible repeat (first | apply Kd.R_alloc | apply Kd.R_drewN | apply Kd.R_drew)); exact HO_616001.out)⟩; have n2_ : Aside0 (w63.heap[gb604]? = some (.cells #[.slice A0_0 l0_0.length c0_0, .slice (some ad616) l0_1.length c0_1, .int .i64 a0_2, .int .i64 a0_3] 30 (0, 0))) := ⟨by rw [← hq_]; exact (by (with_reducible repeat (first | refine blk_drewN ?_ _ | refine blk_drew ?_ | refine blk_alloc ?_ _)); exact BK604.out)⟩; have n3_ : Aside0 (w63.heap[gb605]? = some (.cells #[.slice none 0 0, .slice none 0 0, .int .i64 0, .int .i64 0] 30 (0, 0))) := ⟨by rw [← hq_]; exact (by (with_reducible repeat (first | refine blk_drewN ?_ _ | refine blk_drew ?_ | refine blk_alloc ?_ _)); exact BK605.out)⟩; have n4_ : Aside0 (w63.heap[gb615]? = some (.cells #[u616000, .slice Ao28 t610.length co28, .int .i64 t613, .int .i64 t614] 30 (0, 0))) := ⟨by rw [← hq_]; exact (by (with_reducible repeat (first | refine blk_drewN ?_ _ | refine blk_drew ?_ | refine blk_alloc ?_ _)); exact BK615.out)⟩; have n5_ : Aside0 (w63.heap[gb617]? = some (.cells #[.int .i64 ((rd_T54 l0_1 x10_2).f0), .string ((rd_T54 l0_1 x10_2).f1)] 54 (0, 0))) := ⟨by rw [← hq_]; exact (by (with_reducible repeat (first | refine blk_drewN ?_ _ | refine blk_drew ?_ | refine blk_alloc ?_ _)); exact BK617.out)⟩; have n6_ : Aside0 (Below w.heap.size w w63) := ⟨by rw [← hq_]; exact (by repeat (first | (with_reducible first | exact HB.out | apply below_alloc | apply pw_below_drewN | apply below_drew1 | refine below_set ?_ GE604.out | refine below_set ?_ GE605.out | refine below_set ?_ GE615.out | refine below_set ?_ GE617.out) | exact HB.out))⟩; clear HO_616000 HO_616001 BK604 BK605 BK615 BK617 HB hq_; have HO_616000 := n0_; have HO_616001 := n1_; have BK604 := n2_; have BK605 := n3_; have BK615 := n4_; have BK617 := n5_; have HB := n6_; clear n0_ n1_ n2_ n3_ n4_ n5_ n6_))
                        have n0_ := Aside0.mk (Kd.R_drew HO_616000.out)
                        have n1_ := Aside0.mk (Kd.R_drew HO_616001.out)
                        have n2_ := Aside0.mk (blk_drew BK604.out)
                        have n3_ := Aside0.mk (blk_drew BK605.out)
                        have n4_ := Aside0.mk (blk_drew BK615.out)
                        have n5_ := Aside0.mk (blk_drew BK617.out)
                        have n6_ := Aside0.mk (below_drew1 HB.out)
                        clear HO_616000
                        clear HO_616001
                        clear BK604
                        clear BK605
                        clear BK615
                        clear BK617
                        clear HB
                        have HO_616000 := n0_
                        have HO_616001 := n1_
                        have BK604 := n2_
                        have BK605 := n3_
                        have BK615 := n4_
                        have BK617 := n5_
                        have HB := n6_
                        clear n0_ n1_ n2_ n3_ n4_ n5_ n6_
                        obtain ⟨Ao65, co65, eo65⟩ := Kd.R_slice HO_616000.out
                        (first | subst eo65 | (injection eo65 with f1_ f2_ f3_; have f4_ := f1_.symm; have f5_ := f3_.symm; clear f1_ f2_ f3_; subst f4_; subst f5_))
                        have p620 : 0 ≤ (((rd_T54 l0_1 x10_2).f0) : Int) := of_decide_eq_true (by first | (with_reducible assumption) | assumption)
                        have q620 : ((rd_T54 l0_1 x10_2).f0) < (x616000_2.length : Int) := of_decide_eq_true (by first | (with_reducible assumption) | assumption)
                        obtain ⟨ad620, e620, hx620_0⟩ := Kd.at_string (Kd.R_reads' HO_616000.out).2.2 ((rd_T54 l0_1 x10_2).f0) p620 q620
                        cases e620
                        replace p620 := eq_true p620
                        replace q620 := eq_true q620
                        refine start_ (n := 16) (S := fun w' => w'.cell? ⟨gb615, 0, none⟩ = some (.slice (some ad620) x616000_2.length co65) ∧ w'.cell? ⟨gb615, 1, none⟩ = some (.slice Ao28 t610.length co28) ∧ w'.cell? ⟨gb615, 2, none⟩ = some (.int .i64 t613) ∧ w'.cell? ⟨gb615, 3, none⟩ = some (.int .i64 t614) ∧ w'.cell? ⟨gb617, 0, none⟩ = some (.int .i64 ((rd_T54 l0_1 x10_2).f0)) ∧ w'.cell? ⟨gb617, 1, none⟩ = some (.string ((rd_T54 l0_1 x10_2).f1)) ∧ w'.cell? (ad620.add (((rd_T54 l0_1 x10_2).f0)).toNat) = some (.string (rdOf ByteArray.empty x616000_2 ((rd_T54 l0_1 x10_2).f0)))) (ds := [15]) #[false, false, false, false, false, false, false, false, false, false, false, false, false, false, false, false] (by kernel_rfl) rfl rfl ⟨(blk_cell BK615.out 0).trans rfl, (blk_cell BK615.out 1).trans rfl, (blk_cell BK615.out 2).trans rfl, (blk_cell BK615.out 3).trans rfl, (blk_cell BK617.out 0).trans rfl, (blk_cell BK617.out 1).trans rfl, hx620_0⟩ (fun hHeld => ?_); refine with_tabW spec_DiskCrash.tab11 spec_DiskCrash.bits11 (fun HT_ HW_ => ?_)
                        generalize w63.drew = w64 at HO_616000 HO_616001 BK604 BK605 BK615 BK617 HB hx620_0 hHeld ⊢
                        refine pure_ (i := 0) (N := some 47) (v := ?_) (a' := ?_) #[true, false, false, false, false, false, false, false, false, false, false, false, false, false, false, false] rfl rfl (any_of HT_.out (by kernel_rfl)) (fun _ _ _ h => h) (Or.inl ⟨by rfl, ?_⟩) ?_ ?_
                        rotate_left
                        · intro w'
                          go_simp
                          with_reducible rfl
                        rotate_left
                        · simp only [Act.put, List.setIfInBounds_toArray, List.set_cons_zero, List.set_cons_succ, i64_w, i32_w]
                          rfl
                        refine pure_ (i := 2) (N := some 49) (v := ?_) (a' := ?_) #[true, false, true, false, false, false, false, false, false, false, false, false, false, false, false, false] rfl rfl (any_of HT_.out (by kernel_rfl)) (fun _ _ _ h => h) (Or.inl ⟨by rfl, ?_⟩) ?_ ?_
                        rotate_left
                        · intro w'
                          go_simp
                          with_reducible rfl
                        rotate_left
                        · simp only [Act.put, List.setIfInBounds_toArray, List.set_cons_zero, List.set_cons_succ, i64_w, i32_w]
                          rfl
                        refine pure_ (i := 4) (N := some 51) (v := ?_) (a' := ?_) #[true, false, true, false, true, false, false, false, false, false, false, false, false, false, false, false] rfl rfl (any_of HT_.out (by kernel_rfl)) (fun _ _ _ h => h) (Or.inl ⟨by rfl, ?_⟩) ?_ ?_
                        rotate_left
                        · intro w'
                          go_simp
                          with_reducible rfl
                        rotate_left
                        · simp only [Act.put, List.setIfInBounds_toArray, List.set_cons_zero, List.set_cons_succ, i64_w, i32_w]
                          rfl
                        refine pure_ (i := 6) (N := some 53) (v := ?_) (a' := ?_) #[true, false, true, false, true, false, true, false, false, false, false, false, false, false, false, false] rfl rfl (any_of HT_.out (by kernel_rfl)) (fun _ _ _ h => h) (Or.inl ⟨by rfl, ?_⟩) ?_ ?_
                        rotate_left
                        · intro w'
                          go_simp
                          with_reducible rfl
                        rotate_left
                        · simp only [Act.put, List.setIfInBounds_toArray, List.set_cons_zero, List.set_cons_succ, i64_w, i32_w]
                          rfl
                        refine pure_ (i := 8) (N := some 55) (v := ?_) (a' := ?_) #[true, false, true, false, true, false, true, false, true, false, false, false, false, false, false, false] rfl rfl (any_of HT_.out (by kernel_rfl)) (fun _ _ _ h => h) (Or.inl ⟨by rfl, ?_⟩) ?_ ?_
                        rotate_left
                        · intro w'
                          go_simp
                          with_reducible rfl
                        rotate_left
                        · simp only [Act.put, List.setIfInBounds_toArray, List.set_cons_zero, List.set_cons_succ, i64_w, i32_w]
                          rfl
                        refine pure_ (i := 12) (N := some 59) (v := ?_) (a' := ?_) #[true, false, true, false, true, false, true, false, true, false, false, false, true, false, false, false] rfl rfl (any_of HT_.out (by kernel_rfl)) (fun _ _ _ h => h) (Or.inl ⟨by rfl, ?_⟩) ?_ ?_
                        rotate_left
                        · intro w'
                          go_simp
                          with_reducible rfl
                        rotate_left
                        · simp only [Act.put, List.setIfInBounds_toArray, List.set_cons_zero, List.set_cons_succ, i64_w, i32_w]
                          rfl
                        refine take_ (i := 1) (N := some 48) (v := ?_) (a' := ?_) #[true, true, true, false, true, false, true, false, true, false, false, false, true, false, false, false] rfl rfl (take_ofW HT_.out HW_.out (by kernel_rfl)) (fun _ _ _ h => h) (Or.inl ⟨by rfl, ?_⟩) hHeld ?_ ?_
                        rotate_left
                        · rintro w' ⟨s0, s1, s2, s3, s4, s5, s6⟩
                          go_simp
                          with_reducible rfl
                        rotate_left
                        · simp only [Act.put, List.setIfInBounds_toArray, List.set_cons_zero, List.set_cons_succ, i64_w, i32_w]
                          rfl
                        refine take_ (i := 3) (N := some 50) (v := ?_) (a' := ?_) #[true, true, true, true, true, false, true, false, true, false, false, false, true, false, false, false] rfl rfl (take_ofW HT_.out HW_.out (by kernel_rfl)) (fun _ _ _ h => h) (Or.inl ⟨by rfl, ?_⟩) hHeld ?_ ?_
                        rotate_left
                        · rintro w' ⟨s0, s1, s2, s3, s4, s5, s6⟩
                          go_simp
                          with_reducible rfl
                        rotate_left
                        · simp only [Act.put, List.setIfInBounds_toArray, List.set_cons_zero, List.set_cons_succ, i64_w, i32_w]
                          rfl
                        refine take_ (i := 5) (N := some 52) (v := ?_) (a' := ?_) #[true, true, true, true, true, true, true, false, true, false, false, false, true, false, false, false] rfl rfl (take_ofW HT_.out HW_.out (by kernel_rfl)) (fun _ _ _ h => h) (Or.inl ⟨by rfl, ?_⟩) hHeld ?_ ?_
                        rotate_left
                        · rintro w' ⟨s0, s1, s2, s3, s4, s5, s6⟩
                          go_simp
                          with_reducible rfl
                        rotate_left
                        · simp only [Act.put, List.setIfInBounds_toArray, List.set_cons_zero, List.set_cons_succ, i64_w, i32_w]
                          rfl
                        refine take_ (i := 7) (N := some 54) (v := ?_) (a' := ?_) #[true, true, true, true, true, true, true, true, true, false, false, false, true, false, false, false] rfl rfl (take_ofW HT_.out HW_.out (by kernel_rfl)) (fun _ _ _ h => h) (Or.inl ⟨by rfl, ?_⟩) hHeld ?_ ?_
                        rotate_left
                        · rintro w' ⟨s0, s1, s2, s3, s4, s5, s6⟩
                          go_simp
                          with_reducible rfl
                        rotate_left
                        · simp only [Act.put, List.setIfInBounds_toArray, List.set_cons_zero, List.set_cons_succ, i64_w, i32_w]
                          rfl
                        refine take_ (i := 9) (N := some 56) (v := ?_) (a' := ?_) #[true, true, true, true, true, true, true, true, true, true, false, false, true, false, false, false] rfl rfl (take_ofW HT_.out HW_.out (by kernel_rfl)) (fun _ _ _ h => h) (Or.inl ⟨by rfl, ?_⟩) hHeld ?_ ?_
                        rotate_left
                        · rintro w' ⟨s0, s1, s2, s3, s4, s5, s6⟩
                          go_simp
                          with_reducible rfl
                        rotate_left
                        · simp only [Act.put, List.setIfInBounds_toArray, List.set_cons_zero, List.set_cons_succ, i64_w, i32_w]
                          rfl
                        refine pure_ (i := 10) (N := some 57) (v := ?_) (a' := ?_) #[true, true, true, true, true, true, true, true, true, true, true, false, true, false, false, false] rfl rfl (any_of HT_.out (by kernel_rfl)) (fun _ _ _ h => h) (Or.inl ⟨by rfl, ?_⟩) ?_ ?_
                        rotate_left
                        · intro w'
                          go_simp
                          with_reducible rfl
                        rotate_left
                        · simp only [Act.put, List.setIfInBounds_toArray, List.set_cons_zero, List.set_cons_succ, i64_w, i32_w]
                          rfl
                        refine take_ (i := 11) (N := some 58) (v := ?_) (a' := ?_) #[true, true, true, true, true, true, true, true, true, true, true, true, true, false, false, false] rfl rfl (take_ofW HT_.out HW_.out (by kernel_rfl)) (fun _ _ _ h => h) (Or.inl ⟨by rfl, ?_⟩) hHeld ?_ ?_
                        rotate_left
                        · rintro w' ⟨s0, s1, s2, s3, s4, s5, s6⟩
                          go_simp
                          with_reducible rfl
                        rotate_left
                        · simp only [Act.put, List.setIfInBounds_toArray, List.set_cons_zero, List.set_cons_succ, i64_w, i32_w]
                          rfl
                        refine one_ (i := 13) (N := some 60) #[true, true, true, true, true, true, true, true, true, true, true, true, true, true, false, false] rfl rfl (one_of HT_.out (by kernel_rfl)) (by decide) (fun K hK => ?_)
                        refine goes_ Try.func86 (by kernel_rfl) rfl #[.string ((rd_T54 l0_1 x10_2).f1), .string (rdOf ByteArray.empty x616000_2 ((rd_T54 l0_1 x10_2).f0)), .int .i64 a3] (by rfl) rfl rfl (by (try simp only [List.map_toArray, List.map_cons, List.map_nil]); first | done | rfl | (simp only [List.length_drop, List.length_take]; rfl)) ?_
                        with_reducible refine (spec_l7Torn.calls ((rd_T54 l0_1 x10_2).f1) (rdOf ByteArray.empty x616000_2 ((rd_T54 l0_1 x10_2).f0)) a3 t621 _ A53.out).mono ?_
                        rintro e w66 ⟨rfl, hb⟩
                        have HS6_ := (hb.cell (World.block_lt_of_cell? _ _ (hHeld.2.2.2.2.2.2))).trans (hHeld.2.2.2.2.2.2)
                        refine ⟨_, rfl, ?_⟩
                        have n0_ := Aside0.mk (Kd.R_below (by (with_reducible repeat (first | apply Kd.R_alloc | apply Kd.R_drewN | apply Kd.R_drew)); exact HO_616000.out) hb)
                        have n1_ := Aside0.mk (Kd.R_below (by (with_reducible repeat (first | apply Kd.R_alloc | apply Kd.R_drewN | apply Kd.R_drew)); exact HO_616001.out) hb)
                        have n2_ := Aside0.mk (blk_below (g := gb604) (o := .cells #[.slice A0_0 l0_0.length c0_0, .slice (some ad616) l0_1.length c0_1, .int .i64 a0_2, .int .i64 a0_3] 30 (0, 0)) (by (with_reducible repeat (first | refine blk_drewN ?_ _ | refine blk_drew ?_ | refine blk_alloc ?_ _)); exact BK604.out) hb)
                        have n3_ := Aside0.mk (blk_below (g := gb605) (o := .cells #[.slice none 0 0, .slice none 0 0, .int .i64 0, .int .i64 0] 30 (0, 0)) (by (with_reducible repeat (first | refine blk_drewN ?_ _ | refine blk_drew ?_ | refine blk_alloc ?_ _)); exact BK605.out) hb)
                        have n4_ := Aside0.mk (blk_below (g := gb615) (o := .cells #[.slice (some ad620) x616000_2.length co65, .slice Ao28 t610.length co28, .int .i64 t613, .int .i64 t614] 30 (0, 0)) (by (with_reducible repeat (first | refine blk_drewN ?_ _ | refine blk_drew ?_ | refine blk_alloc ?_ _)); exact BK615.out) hb)
                        have n5_ := Aside0.mk (blk_below (g := gb617) (o := .cells #[.int .i64 ((rd_T54 l0_1 x10_2).f0), .string ((rd_T54 l0_1 x10_2).f1)] 54 (0, 0)) (by (with_reducible repeat (first | refine blk_drewN ?_ _ | refine blk_drew ?_ | refine blk_alloc ?_ _)); exact BK617.out) hb)
                        have n6_ := Aside0.mk (below_step (by repeat (first | (with_reducible first | exact HB.out | apply below_alloc | apply pw_below_drewN | apply below_drew1 | refine below_set ?_ GE604.out | refine below_set ?_ GE605.out | refine below_set ?_ GE615.out | refine below_set ?_ GE617.out) | exact HB.out)) hb)
                        clear HO_616000
                        clear HO_616001
                        clear BK604
                        clear BK605
                        clear BK615
                        clear BK617
                        clear HB
                        have HO_616000 := n0_
                        have HO_616001 := n1_
                        have BK604 := n2_
                        have BK605 := n3_
                        have BK615 := n4_
                        have BK617 := n5_
                        have HB := n6_
                        clear n0_ n1_ n2_ n3_ n4_ n5_ n6_
                        (try clear hb)
                        (try clear hb2)
                        (try clear hk)
                        (try clear hi)
                        have p54 : 0 ≤ (((rd_T54 l0_1 x10_2).f0) : Int) := of_decide_eq_true (by first | (with_reducible assumption) | assumption)
                        have q54 : (((rd_T54 l0_1 x10_2).f0) : Int) < ((x616000_2.length : Int) : Int) := of_decide_eq_true (by first | (with_reducible assumption) | assumption)
                        obtain ⟨go54, co54, eo54, gb54, gl54, cl54, HG54⟩ := Kd.R_form HO_616000.out (by omega)
                        (first | cases eo54 | (injection eo54 with ea_ en_ ec_; (first | subst ea_ | (injection ea_ with ea_; subst ea_)); subst ec_; clear en_))
                        have GB54 := Aside0.mk gb54
                        have GG54 := Aside0.mk HG54
                        clear gb54 gl54 HG54
                        (first | simp only [add_plain] at hx620_0 | skip)
                        obtain ⟨hx54_0, hf54_0⟩ := Kd.R_celln (⟨#[]⟩ : ByteArray) HO_616000.out (((rd_T54 l0_1 x10_2).f0) : Int) p54 q54
                        replace p54 := eq_true p54
                        replace q54 := eq_true q54
                        have HP67 := Kd.R_putn HO_616000.out (((rd_T54 l0_1 x10_2).f0) : Int) t621
                        rw [← Ny622.out] at HP67
                        have HQ67 := Aside0.mk HP67
                        clear HP67
                        refine hK.out _ _ ⟨(blk_cell BK615.out 0).trans rfl, (blk_cell BK615.out 1).trans rfl, (blk_cell BK615.out 2).trans rfl, (blk_cell BK615.out 3).trans rfl, (blk_cell BK617.out 0).trans rfl, (blk_cell BK617.out 1).trans rfl, HS6_⟩ (fun hHeld => ?_)
                        clear hK K
                        refine norm_ (a' := ?_) ?_ ?_
                        rotate_left
                        · show Act.put _ (some 60) _ = _
                          simp only [Act.put, List.setIfInBounds_toArray, List.set_cons_zero, List.set_cons_succ, i64_w, i32_w]
                          rfl
                        refine pure_ (i := 14) (N := some 61) (v := ?_) (a' := ?_) #[true, true, true, true, true, true, true, true, true, true, true, true, true, true, true, false] rfl rfl (any_of HT_.out (by kernel_rfl)) (fun _ _ _ h => h) (Or.inl ⟨by rfl, ?_⟩) ?_ ?_
                        rotate_left
                        · intro w'
                          go_simp
                          with_reducible rfl
                        rotate_left
                        · simp only [Act.put, List.setIfInBounds_toArray, List.set_cons_zero, List.set_cons_succ, i64_w, i32_w]
                          rfl
                        refine last_ (i := 15) (N := none) #[true, true, true, true, true, true, true, true, true, true, true, true, true, true, true, true] rfl rfl (one_of HT_.out (by kernel_rfl)) (by decide) (fun K hK => ?_)
                        refine skip_ (w1 := ?_) (by rfl) rfl ?_ ?_
                        rotate_left
                        · go_simp
                          rfl
                        refine hK.out _ _ ?_
                        clear hK K
                        refine done_ (done_of HT_.out (by kernel_rfl)) ?_
                        try go_wp2
                        go_roundg k2
                        case measure => have := HJ4.out; have := HK2.out; omega
                        case rel => exact ⟨(wrap64 (x10_2 + 1)), (y622), (.slice (some ⟨go54, 0, none⟩) x616000_2.length co65), (by first | rfl | (simp; done) | (simp [*]; done)), H', ⟨by have := HJ4.out; have := HK2.out; omega⟩, ⟨by (with_reducible repeat (first | apply Kd.R_alloc | apply Kd.R_drewN | apply Kd.R_drew)); exact HQ67.out⟩, ⟨by (with_reducible repeat (first | apply Kd.R_alloc | apply Kd.R_drewN | apply Kd.R_drew)); exact Kd.R_mono (Kd.R_far (p := ⟨go54, (((rd_T54 l0_1 x10_2).f0) : Int).toNat, none⟩) (Kd.R_types HO_616001.out GG54.out (by decide)) (fun _ hk => hk.2) (.string t621)) (fun _ hk => trivial)⟩, ⟨by (with_reducible repeat (first | refine blk_drewN ?_ _ | refine blk_drew ?_ | refine blk_alloc ?_ _)); refine blk_far ?_ (by have h_ := Kd.R_ne HO_616000.out BK604.out (by decide); intro e_; exact h_ (by rw [e_]; rfl)) _; (with_reducible repeat (first | refine blk_drewN ?_ _ | refine blk_drew ?_ | refine blk_alloc ?_ _)); exact BK604.out⟩, ⟨by (with_reducible repeat (first | refine blk_drewN ?_ _ | refine blk_drew ?_ | refine blk_alloc ?_ _)); refine blk_far ?_ (by have h_ := Kd.R_ne HO_616000.out BK605.out (by decide); intro e_; exact h_ (by rw [e_]; rfl)) _; (with_reducible repeat (first | refine blk_drewN ?_ _ | refine blk_drew ?_ | refine blk_alloc ?_ _)); exact BK605.out⟩, ⟨by (with_reducible repeat (first | refine blk_drewN ?_ _ | refine blk_drew ?_ | refine blk_alloc ?_ _)); refine blk_far ?_ (by have h_ := Kd.R_ne HO_616000.out BK615.out (by decide); intro e_; exact h_ (by rw [e_]; rfl)) _; (with_reducible repeat (first | refine blk_drewN ?_ _ | refine blk_drew ?_ | refine blk_alloc ?_ _)); exact BK615.out⟩, ⟨by repeat (first | (with_reducible first | exact HB.out | apply below_alloc | apply pw_below_drewN | apply below_drew1 | refine below_set ?_ GB54.out | refine below_set ?_ GE604.out | refine below_set ?_ GE605.out | refine below_set ?_ GE615.out | refine below_set ?_ GE617.out) | exact HB.out)⟩⟩
                      · rw [if_neg c52] at H
                        exact absurd H (by simp)
                    · rw [if_neg c51] at H
                      exact absurd H (by simp)
                  · rw [if_neg c50] at H
                    have c50b0 : (x10_2 == a2) = false := beq_eq_false_iff_ne.mpr c50
                    have c50b1 : (x10_2 != a2) = true := bne_iff_ne.mpr c50
                    have H' := Aside0.mk H
                    clear H
                    have hnb68 := NB604_605.out
                    have hnc68 := NB605_604.out
                    have hnb69 := NB604_615.out
                    have hnc69 := NB615_604.out
                    have hcz70_0 : wr.cell? ⟨gb604, 0, none⟩ = some (.slice A0_0 l0_0.length c0_0) := (blk_cell BK604.out 0).trans rfl
                    have hcz70_1 : wr.cell? ⟨gb604, 1, none⟩ = some (.slice A0_1 l0_1.length c0_1) := (blk_cell BK604.out 1).trans rfl
                    have hcz70_2 : wr.cell? ⟨gb604, 2, none⟩ = some (.int .i64 a0_2) := (blk_cell BK604.out 2).trans rfl
                    have hcz70_3 : wr.cell? ⟨gb604, 3, none⟩ = some (.int .i64 a0_3) := (blk_cell BK604.out 3).trans rfl
                    have hfz70_0 := blk_frozen BK604.out 0
                    have hfz70_1 := blk_frozen BK604.out 1
                    have hfz70_2 := blk_frozen BK604.out 2
                    have hfz70_3 := blk_frozen BK604.out 3
                    have p616 : 0 ≤ (x10_2 : Int) := of_decide_eq_true (by first | (with_reducible assumption) | assumption)
                    have q616 : x10_2 < (l0_1.length : Int) := of_decide_eq_true (by first | (with_reducible assumption) | assumption)
                    obtain ⟨ad616, e616, hx616_0, hx616_1⟩ := at_T54 HR0_1.out x10_2 p616 q616
                    cases e616
                    replace hx616_0 := (HB.out.cell (World.block_lt_of_cell? w _ hx616_0)).trans hx616_0
                    replace hx616_1 := (HB.out.cell (World.block_lt_of_cell? w _ hx616_1)).trans hx616_1
                    replace p616 := eq_true p616
                    replace q616 := eq_true q616
                    go_wp2_with (first | ((with_reducible refine gate_dst (N := 11) rfl ?_); refine box_event ?hg (N := 11) ?hd (cs := #[.int .i64 0, .string (⟨#[]⟩ : ByteArray)]) (t := 54) ?hr ?_; (case hd => rfl); (case hg => rfl); (case hr => first | (go_simp; done) | (go_simp; rfl)); intro gb617 hg w71 hbox hb; have n0_ := Aside0.mk (Kd.R_below (by (with_reducible repeat (first | apply Kd.R_alloc | apply Kd.R_drewN | apply Kd.R_drew)); exact HO_616000.out) hb); have n1_ := Aside0.mk (Kd.R_below (Kd.R_elderB (by (with_reducible repeat (first | apply Kd.R_alloc | apply Kd.R_drewN | apply Kd.R_drew)); exact HO_616001.out) gb617 (Nat.le_of_eq hg.symm)) hb); have n2_ := Aside0.mk (blk_below (g := gb604) (o := .cells #[.slice A0_0 l0_0.length c0_0, .slice (some ad616) l0_1.length c0_1, .int .i64 a0_2, .int .i64 a0_3] 30 (0, 0)) (by (with_reducible repeat (first | refine blk_drewN ?_ _ | refine blk_drew ?_ | refine blk_alloc ?_ _)); exact BK604.out) hb); have n3_ := Aside0.mk (blk_below (g := gb605) (o := .cells #[.slice none 0 0, .slice none 0 0, .int .i64 0, .int .i64 0] 30 (0, 0)) (by (with_reducible repeat (first | refine blk_drewN ?_ _ | refine blk_drew ?_ | refine blk_alloc ?_ _)); exact BK605.out) hb); have n4_ := Aside0.mk (blk_below (g := gb615) (o := .cells #[u616000, .slice Ao28 t610.length co28, .int .i64 t613, .int .i64 t614] 30 (0, 0)) (by (with_reducible repeat (first | refine blk_drewN ?_ _ | refine blk_drew ?_ | refine blk_alloc ?_ _)); exact BK615.out) hb); have n5_ := Aside0.mk (below_step (by repeat (first | (with_reducible first | exact HB.out | apply below_alloc | apply pw_below_drewN | apply below_drew1 | refine below_set ?_ GE604.out | refine below_set ?_ GE605.out | refine below_set ?_ GE615.out) | exact HB.out)) hb); have n6_ := Aside0.mk (hbox); have n7_ := Aside0.mk ((by rw [hg]; exact (below_size (by repeat (first | (with_reducible first | exact HB.out | apply below_alloc | apply pw_below_drewN | apply below_drew1 | refine below_set ?_ GE604.out | refine below_set ?_ GE605.out | refine below_set ?_ GE615.out) | exact HB.out))) : w.heap.size ≤ gb617)); have n8_ := Aside0.mk ((by rw [hg]; exact (below_size (by repeat (first | (with_reducible first | exact HB.out | apply below_alloc | apply pw_below_drewN | apply below_drew1 | refine below_set ?_ GE604.out | refine below_set ?_ GE605.out | refine below_set ?_ GE615.out) | exact HB.out))) : w.heap.size ≤ gb617)); have n9_ := Aside0.mk ((by rw [hg]; exact Nat.ne_of_lt (blk_lt (g := gb604) (o := .cells #[.slice A0_0 l0_0.length c0_0, .slice (some ad616) l0_1.length c0_1, .int .i64 a0_2, .int .i64 a0_3] 30 (0, 0)) (by (with_reducible repeat (first | refine blk_drewN ?_ _ | refine blk_drew ?_ | refine blk_alloc ?_ _)); exact BK604.out)) : gb604 ≠ gb617)); have n10_ := Aside0.mk ((by rw [hg]; exact Nat.ne_of_gt (blk_lt (g := gb604) (o := .cells #[.slice A0_0 l0_0.length c0_0, .slice (some ad616) l0_1.length c0_1, .int .i64 a0_2, .int .i64 a0_3] 30 (0, 0)) (by (with_reducible repeat (first | refine blk_drewN ?_ _ | refine blk_drew ?_ | refine blk_alloc ?_ _)); exact BK604.out)) : gb617 ≠ gb604)); have n11_ := Aside0.mk ((by rw [hg]; exact Nat.ne_of_lt (blk_lt (g := gb605) (o := .cells #[.slice none 0 0, .slice none 0 0, .int .i64 0, .int .i64 0] 30 (0, 0)) (by (with_reducible repeat (first | refine blk_drewN ?_ _ | refine blk_drew ?_ | refine blk_alloc ?_ _)); exact BK605.out)) : gb605 ≠ gb617)); have n12_ := Aside0.mk ((by rw [hg]; exact Nat.ne_of_gt (blk_lt (g := gb605) (o := .cells #[.slice none 0 0, .slice none 0 0, .int .i64 0, .int .i64 0] 30 (0, 0)) (by (with_reducible repeat (first | refine blk_drewN ?_ _ | refine blk_drew ?_ | refine blk_alloc ?_ _)); exact BK605.out)) : gb617 ≠ gb605)); have n13_ := Aside0.mk ((by rw [hg]; exact Nat.ne_of_lt (blk_lt (g := gb615) (o := .cells #[u616000, .slice Ao28 t610.length co28, .int .i64 t613, .int .i64 t614] 30 (0, 0)) (by (with_reducible repeat (first | refine blk_drewN ?_ _ | refine blk_drew ?_ | refine blk_alloc ?_ _)); exact BK615.out)) : gb615 ≠ gb617)); have n14_ := Aside0.mk ((by rw [hg]; exact Nat.ne_of_gt (blk_lt (g := gb615) (o := .cells #[u616000, .slice Ao28 t610.length co28, .int .i64 t613, .int .i64 t614] 30 (0, 0)) (by (with_reducible repeat (first | refine blk_drewN ?_ _ | refine blk_drew ?_ | refine blk_alloc ?_ _)); exact BK615.out)) : gb617 ≠ gb615)); clear HO_616000; clear HO_616001; clear BK604; clear BK605; clear BK615; clear HB; have HO_616000 := n0_; have HO_616001 := n1_; have BK604 := n2_; have BK605 := n3_; have BK615 := n4_; have HB := n5_; have BK617 := n6_; have GW617 := n7_; have GE617 := n8_; have NB604_617 := n9_; have NB617_604 := n10_; have NB605_617 := n11_; have NB617_605 := n12_; have NB615_617 := n13_; have NB617_615 := n14_; clear n0_ n1_ n2_ n3_ n4_ n5_ n6_ n7_ n8_ n9_ n10_ n11_ n12_ n13_ n14_; clear hb hbox hg; have hnb72 := NB617_604.out; have hnc72 := NB604_617.out; have hnb73 := NB617_605.out; have hnc73 := NB605_617.out; have hnb74 := NB617_615.out; have hnc74 := NB615_617.out; have hcz75_0 : w71.cell? ⟨gb617, 0, none⟩ = some (.int .i64 0) := (blk_cell BK617.out 0).trans rfl; have hcz75_1 : w71.cell? ⟨gb617, 1, none⟩ = some (.string (⟨#[]⟩ : ByteArray)) := (blk_cell BK617.out 1).trans rfl; have hfz75_0 := blk_frozen BK617.out 0; have hfz75_1 := blk_frozen BK617.out 1) | ((with_reducible refine gate_callee (f := 85) rfl ?_); refine goesL_ (some 36) rfl rfl Try.func85 (by kernel_rfl) rfl #[.int .i64 a1, .int .i64 x10_2] rfl (by (try simp only [List.map_toArray, List.map_cons, List.map_nil]); first | done | rfl | (simp only [List.length_drop, List.length_take]; rfl)) ?_; (with_reducible refine (spec_l7Bit.calls k2 a1 x10_2 false _ A31.out).mono ?_); rintro e w' ⟨rfl, ⟨nd, rfl⟩⟩; refine ⟨_, rfl, ?_⟩))
                    go_roundg k2
                    case measure => have := HJ4.out; have := HK2.out; omega
                    case rel => exact ⟨(wrap64 (x10_2 + 1)), (x616000_2), (u616000), (by first | rfl | (simp; done) | (simp [*]; done)), H', ⟨by have := HJ4.out; have := HK2.out; omega⟩, ⟨by (with_reducible repeat (first | apply Kd.R_alloc | apply Kd.R_drewN | apply Kd.R_drew)); exact Kd.R_mono (Kd.R_far (p := ⟨gb617, 1, none⟩) (Kd.R_far (p := ⟨gb617, 0, none⟩) (Kd.R_types HO_616000.out BK617.out (by decide)) (fun _ hk => hk.2) (.int .i64 ((rd_T54 l0_1 x10_2).f0))) (fun _ hk => hk.2) (.string ((rd_T54 l0_1 x10_2).f1))) (fun _ hk => trivial)⟩, ⟨by (with_reducible repeat (first | apply Kd.R_alloc | apply Kd.R_drewN | apply Kd.R_drew)); exact Kd.R_mono (Kd.R_far (p := ⟨gb617, 1, none⟩) (Kd.R_far (p := ⟨gb617, 0, none⟩) (Kd.R_mono HO_616001.out (fun k_ hk => (⟨hk, hk.2⟩ : _ ∧ k_ ≠ gb617))) (fun _ hk => hk.2) (.int .i64 ((rd_T54 l0_1 x10_2).f0))) (fun _ hk => hk.2) (.string ((rd_T54 l0_1 x10_2).f1))) (fun _ hk => trivial)⟩, ⟨by (with_reducible repeat (first | refine blk_drewN ?_ _ | refine blk_drew ?_ | refine blk_alloc ?_ _)); refine blk_far ?_ NB604_617.out _; (with_reducible repeat (first | refine blk_drewN ?_ _ | refine blk_drew ?_ | refine blk_alloc ?_ _)); refine blk_far ?_ NB604_617.out _; (with_reducible repeat (first | refine blk_drewN ?_ _ | refine blk_drew ?_ | refine blk_alloc ?_ _)); exact BK604.out⟩, ⟨by (with_reducible repeat (first | refine blk_drewN ?_ _ | refine blk_drew ?_ | refine blk_alloc ?_ _)); refine blk_far ?_ NB605_617.out _; (with_reducible repeat (first | refine blk_drewN ?_ _ | refine blk_drew ?_ | refine blk_alloc ?_ _)); refine blk_far ?_ NB605_617.out _; (with_reducible repeat (first | refine blk_drewN ?_ _ | refine blk_drew ?_ | refine blk_alloc ?_ _)); exact BK605.out⟩, ⟨by (with_reducible repeat (first | refine blk_drewN ?_ _ | refine blk_drew ?_ | refine blk_alloc ?_ _)); refine blk_far ?_ NB615_617.out _; (with_reducible repeat (first | refine blk_drewN ?_ _ | refine blk_drew ?_ | refine blk_alloc ?_ _)); refine blk_far ?_ NB615_617.out _; (with_reducible repeat (first | refine blk_drewN ?_ _ | refine blk_drew ?_ | refine blk_alloc ?_ _)); exact BK615.out⟩, ⟨by repeat (first | (with_reducible first | exact HB.out | apply below_alloc | apply pw_below_drewN | apply below_drew1 | refine below_set ?_ GE604.out | refine below_set ?_ GE605.out | refine below_set ?_ GE615.out | refine below_set ?_ GE617.out) | exact HB.out)⟩⟩
              · rw [if_neg c30] at H
                exact absurd H (by simp)
            · rw [if_neg c29] at H
              have c29b0 : decide (x10_2 < (l0_1.length : Int)) = false := decide_eq_false c29
              clear c29
              simp only [Option.some.injEq, Prod.mk.injEq] at H
              obtain ⟨rfl, rfl, rfl, rfl⟩ := H
              have hnb76 := NB604_605.out
              have hnc76 := NB605_604.out
              have hnb77 := NB604_615.out
              have hnc77 := NB615_604.out
              have hcz78_0 : wr.cell? ⟨gb604, 0, none⟩ = some (.slice A0_0 l0_0.length c0_0) := (blk_cell BK604.out 0).trans rfl
              have hcz78_1 : wr.cell? ⟨gb604, 1, none⟩ = some (.slice A0_1 l0_1.length c0_1) := (blk_cell BK604.out 1).trans rfl
              have hcz78_2 : wr.cell? ⟨gb604, 2, none⟩ = some (.int .i64 a0_2) := (blk_cell BK604.out 2).trans rfl
              have hcz78_3 : wr.cell? ⟨gb604, 3, none⟩ = some (.int .i64 a0_3) := (blk_cell BK604.out 3).trans rfl
              have hfz78_0 := blk_frozen BK604.out 0
              have hfz78_1 := blk_frozen BK604.out 1
              have hfz78_2 := blk_frozen BK604.out 2
              have hfz78_3 := blk_frozen BK604.out 3
              have hnb79 := NB615_605.out
              have hnc79 := NB605_615.out
              have hcz80_0 : wr.cell? ⟨gb615, 0, none⟩ = some (u616000) := (blk_cell BK615.out 0).trans rfl
              have hcz80_1 : wr.cell? ⟨gb615, 1, none⟩ = some (.slice Ao28 t610.length co28) := (blk_cell BK615.out 1).trans rfl
              have hcz80_2 : wr.cell? ⟨gb615, 2, none⟩ = some (.int .i64 t613) := (blk_cell BK615.out 2).trans rfl
              have hcz80_3 : wr.cell? ⟨gb615, 3, none⟩ = some (.int .i64 t614) := (blk_cell BK615.out 3).trans rfl
              have hfz80_0 := blk_frozen BK615.out 0
              have hfz80_1 := blk_frozen BK615.out 1
              have hfz80_2 := blk_frozen BK615.out 2
              have hfz80_3 := blk_frozen BK615.out 3
              obtain ⟨Ao81, co81, eo81⟩ := Kd.R_slice HO_616000.out
              subst eo81
              have hcz82_0 : wr.cell? ⟨gb605, 0, none⟩ = some (.slice none 0 0) := (blk_cell BK605.out 0).trans rfl
              have hcz82_1 : wr.cell? ⟨gb605, 1, none⟩ = some (.slice none 0 0) := (blk_cell BK605.out 1).trans rfl
              have hcz82_2 : wr.cell? ⟨gb605, 2, none⟩ = some (.int .i64 0) := (blk_cell BK605.out 2).trans rfl
              have hcz82_3 : wr.cell? ⟨gb605, 3, none⟩ = some (.int .i64 0) := (blk_cell BK605.out 3).trans rfl
              have hfz82_0 := blk_frozen BK605.out 0
              have hfz82_1 := blk_frozen BK605.out 1
              have hfz82_2 := blk_frozen BK605.out 2
              have hfz82_3 := blk_frozen BK605.out 3
              go_wp2
              refine bodyPost_ret (results_cell_row rfl _ _ gb605 30 #[.slice Ao81 x616000_2.length co81, .slice none 0 0, .int .i64 (-1), .int .i64 (-1)] (0, 0) _ rfl (by (with_reducible repeat (first | refine blk_drewN ?_ _ | refine blk_drew ?_ | refine blk_alloc ?_ _)); refine blk_put (cs := #[.slice Ao81 x616000_2.length co81, .slice none 0 0, .int .i64 (-1), .int .i64 0]) ?_ 3 _ rfl; (with_reducible repeat (first | refine blk_drewN ?_ _ | refine blk_drew ?_ | refine blk_alloc ?_ _)); refine blk_put (cs := #[.slice Ao81 x616000_2.length co81, .slice none 0 0, .int .i64 0, .int .i64 0]) ?_ 2 _ rfl; (with_reducible repeat (first | refine blk_drewN ?_ _ | refine blk_drew ?_ | refine blk_alloc ?_ _)); refine blk_put (cs := #[.slice Ao81 x616000_2.length co81, .slice none 0 0, .int .i64 0, .int .i64 0]) ?_ 1 _ rfl; (with_reducible repeat (first | refine blk_drewN ?_ _ | refine blk_drew ?_ | refine blk_alloc ?_ _)); refine blk_put (cs := #[.slice none 0 0, .slice none 0 0, .int .i64 0, .int .i64 0]) ?_ 0 _ rfl; (with_reducible repeat (first | refine blk_drewN ?_ _ | refine blk_drew ?_ | refine blk_alloc ?_ _)); refine blk_far ?_ NB605_615.out _; (with_reducible repeat (first | refine blk_drewN ?_ _ | refine blk_drew ?_ | refine blk_alloc ?_ _)); refine blk_far ?_ NB605_615.out _; (with_reducible repeat (first | refine blk_drewN ?_ _ | refine blk_drew ?_ | refine blk_alloc ?_ _)); refine blk_far ?_ NB605_615.out _; (with_reducible repeat (first | refine blk_drewN ?_ _ | refine blk_drew ?_ | refine blk_alloc ?_ _)); exact BK605.out) Try.underlying30 rfl (by kernel_rfl)) rfl ?_
              exact ⟨_, _, by first | rfl | (simp [errW_none, errW_some] <;> rfl) | (simp [*, errW_none, errW_some] <;> rfl), by (with_reducible repeat (first | apply Kd.R_alloc | apply Kd.R_drewN | apply Kd.R_drew)); exact Kd.R_mono (Kd.R_far (p := ⟨gb605, 3, none⟩) (Kd.R_far (p := ⟨gb605, 2, none⟩) (Kd.R_far (p := ⟨gb605, 1, none⟩) (Kd.R_far (p := ⟨gb605, 0, none⟩) (Kd.R_far (p := ⟨gb615, 3, none⟩) (Kd.R_far (p := ⟨gb615, 2, none⟩) (Kd.R_far (p := ⟨gb615, 1, none⟩) (Kd.R_types (Kd.R_types HO_616000.out BK615.out (by decide)) BK605.out (by decide)) (fun _ hk => hk.1.2) (.slice none 0 0)) (fun _ hk => hk.1.2) (.int .i64 (-1))) (fun _ hk => hk.1.2) (.int .i64 (-1))) (fun _ hk => hk.2) (.slice Ao81 x616000_2.length co81)) (fun _ hk => hk.2) (.slice none 0 0)) (fun _ hk => hk.2) (.int .i64 (-1))) (fun _ hk => hk.2) (.int .i64 (-1))) (fun _ hk => trivial), by first | exact Kd.R_nil _ _ _ _ _ | exact Kd.N_nil _ _ _ _ _ | exact Kd.V_nil _ _ _ _ _ | exact Kd.Q_nil _ _ _ _ _ | exact Kd.S_nil _ _ _ _ _, by repeat (first | (with_reducible first | exact HB.out | apply below_alloc | apply pw_below_drewN | apply below_drew1 | refine below_set ?_ GE604.out | refine below_set ?_ GE605.out | refine below_set ?_ GE615.out) | exact HB.out)⟩

end Go.Proofs.Ytldjfonpegffiaa.Q
