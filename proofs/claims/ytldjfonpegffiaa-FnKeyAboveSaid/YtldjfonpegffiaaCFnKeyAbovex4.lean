/- A part of the proof that the law FnKeyAbove answers true for every input: contracts of functions that it reaches, or its plain law. -/
import Derived.Test.YtldjfonpegffiaaProg
import Derived.Below
import Derived.Deep.Draws
import Derived.Deep.AppendLies
import Derived.Maps.AppendAt
import Derived.OwnWalk
import Derived.Laws.BytesArg
import Derived.Laws.MakeOwn
import Derived.Laws.OwnMore
import Derived.Deep.OwnRows
import Derived.Tactics
import Derived.Lib.ConvBytes
import Derived.Laws.Slices
import Derived.WalkKit
import Derived.KernelRfl
import Derived.RowKit3
import Derived.Deep.LoopGhost
import Derived.Deep.QuietTactic
import Derived.BigQuiet
import Derived.WideLaws
import Derived.Deep.DeepCutAuto
import Derived.Deep.CutBlock
import Derived.Deep.RegionHeld3
import Derived.Laws.Rows
import Derived.Lib.AppendStr
import Derived.ArgAppend
import Derived.Laws.IdiomCopy
import Derived.OrdersHeld
import Derived.Laws.BitsLemmas
import Derived.RowKit
import Derived.Laws.Cover1
import Derived.Test.YtldjfonpegffiaaCFnKeyAbovex0
import Derived.Test.YtldjfonpegffiaaCFnKeyAbovex1
import Derived.Test.YtldjfonpegffiaaCFnKeyAbovex2
import Derived.Test.YtldjfonpegffiaaCFnKeyAbovex3
namespace Go.Proofs.Ytldjfonpegffiaa.Q
open Go.RowKit Go.Proofs.YtldjfonpegffiaaW.PrintWords Go.Proofs.YtldjfonpegffiaaW.PrintLast Go.Proofs.YtldjfonpegffiaaW.PrintMore
attribute [local go_sem] max2_int min2_int max_two min_two max_three min_three max_four min_four   -- for this text's walks alone
set_option linter.unusedVariables false
set_option linter.unusedSimpArgs false

/-! ### laws_FnKeyAbove: function 4 -/
def laws_FnKeyAbove.j0 : Nat → List Int → List Int → Bool → Option (Bool)
  | 0, _, _, _ => none
  | k + 1, x0, x1, x16 => if x16 = true then (some true) else ((spec_DrawKeyAbove.f k x0).bind fun t131 => ((spec_DrawKeyAbove.f k x1).bind fun t132 => ((impl_KeyAbove.f t131).bind fun t133 => ((spec_KeyAbove.f k t131).bind fun t134 => (if t133.toList = t134.toList then (if t133.toList = ([] : List UInt8) then (if (t132.size : Int) ≥ (t131.size : Int) then (if 0 ≤ (t131.size : Int) then (if (t131.size : Int) ≤ (t132.size : Int) then (if ((Op.bytesLess t132.toList t131.toList) = true) then (if (((t132.extract 0 ((t131.size : Int) : Int).toNat).toList == t131.toList) == false) = true then (some true) else (some (!((t132.extract 0 ((t131.size : Int) : Int).toNat).toList == t131.toList)))) else (if (((t132.extract 0 ((t131.size : Int) : Int).toNat).toList == t131.toList) == true) = true then (some true) else (some (!((t132.extract 0 ((t131.size : Int) : Int).toNat).toList == t131.toList))))) else (none)) else (none)) else (if ((Op.bytesLess t132.toList t131.toList) = true) then (if (false == false) = true then (some true) else (some (!false))) else (if (false == true) = true then (some true) else (some (!false))))) else (if t131.size + t132.size ≤ 9223372036854775807 then (if ((Op.bytesLess ((t131 ++ t132).toList) t133.toList) = true) then (if ((Op.bytesLess t131.toList t133.toList) = true) then (if (t132.size : Int) ≥ (t131.size : Int) then (if 0 ≤ (t131.size : Int) then (if (t131.size : Int) ≤ (t132.size : Int) then (if ((Op.bytesLess t132.toList t131.toList) = true) then (if (((t132.extract 0 ((t131.size : Int) : Int).toNat).toList == t131.toList) == false) = true then (some true) else (some false)) else (if (((t132.extract 0 ((t131.size : Int) : Int).toNat).toList == t131.toList) == (Op.bytesLess t132.toList t133.toList)) = true then (some true) else (some false))) else (none)) else (none)) else (if ((Op.bytesLess t132.toList t131.toList) = true) then (if (false == false) = true then (some true) else (some false)) else (if (false == (Op.bytesLess t132.toList t133.toList)) = true then (some true) else (some false)))) else (some false)) else (some false)) else (none))) else (some false))))))
def laws_FnKeyAbove.f (k : Nat) (l0 : List Int) (l1 : List Int) : Option (Bool) := if (l0.length : Int) > 1048576 then (laws_FnKeyAbove.j0 k l0 l1 true) else (laws_FnKeyAbove.j0 k l0 l1 (decide ((l1.length : Int) > 1048576)))
theorem laws_FnKeyAbove.mono_l : ∀ k, (∀ y0 y1 y2, LeO (laws_FnKeyAbove.j0 k y0 y1 y2) (laws_FnKeyAbove.j0 (k + 1) y0 y1 y2))
  | 0 => fun _ _ _ r h => by simp [laws_FnKeyAbove.j0] at h
  | k + 1 => by
    have ih0 := laws_FnKeyAbove.mono_l k
    · intro y0 y1 y2
      unfold laws_FnKeyAbove.j0
      repeat' first
      | (with_reducible exact ih0 _ _ _)
      | (with_reducible exact spec_DrawKeyAbove.mono _ _)
      | (with_reducible exact spec_KeyAbove.mono _ _)
      | (with_reducible exact LeO.refl _)
      | (with_reducible exact LeO.none _)
      | (with_reducible refine LeO.ite ?_ ?_)
      | (with_reducible refine LeO.bind ?_ (fun _ => ?_))
      | exact ih0 _ _ _
      | exact spec_DrawKeyAbove.mono _ _
      | exact spec_KeyAbove.mono _ _
      | exact LeO.none _
      | refine LeO.ite ?_ ?_
      | refine LeO.bind ?_ (fun _ => ?_)
theorem laws_FnKeyAbove.mono : ∀ a0 a1 k, LeO (laws_FnKeyAbove.f k a0 a1) (laws_FnKeyAbove.f (k + 1) a0 a1) := by
  intro a0 a1 k
  have ih0 := laws_FnKeyAbove.mono_l k
  unfold laws_FnKeyAbove.f
  repeat' first
      | (with_reducible exact ih0 _ _ _)
      | (with_reducible exact spec_DrawKeyAbove.mono _ _)
      | (with_reducible exact spec_KeyAbove.mono _ _)
      | (with_reducible exact LeO.refl _)
      | (with_reducible exact LeO.none _)
      | (with_reducible refine LeO.ite ?_ ?_)
      | (with_reducible refine LeO.bind ?_ (fun _ => ?_))
      | exact ih0 _ _ _
      | exact spec_DrawKeyAbove.mono _ _
      | exact spec_KeyAbove.mono _ _
      | exact LeO.none _
      | refine LeO.ite ?_ ?_
      | refine LeO.bind ?_ (fun _ => ?_)
set_option maxHeartbeats 8000000 in
set_option maxRecDepth 100000 in
theorem laws_FnKeyAbove.calls (k : Nat) (A0 : Option Addr) (c0 : Nat) (l0 : List Int) (A1 : Option Addr) (c1 : Nat) (l1 : List Int) (r : Bool) (w : World) (hr0 : Kd.C (Kd.int .u8) w A0 l0.length l0) (hc0 : l0.length ≤ c0) (hr1 : Kd.C (Kd.int .u8) w A1 l1.length l1) (hc1 : l1.length ≤ c1) (hrt : r = true) (h : laws_FnKeyAbove.f k l0 l1 = some r) :
    Calls Try.prog 4 #[.slice A0 l0.length c0, .slice A1 l1.length c1] w fun e w' => e = .returned (.bool r) ∧ Below w.heap.size w w' := by
  have HRT := Aside0.mk hrt
  clear hrt
  have HR0 := Aside0.mk hr0
  have HC0 := Aside0.mk hc0
  clear hr0 hc0
  have HR1 := Aside0.mk hr1
  have HC1 := Aside0.mk hc1
  clear hr1 hc1
  have HB := Aside0.mk (Below.refl w.heap.size w)
  have H : (if (l0.length : Int) > 1048576 then (laws_FnKeyAbove.j0 k l0 l1 true) else (laws_FnKeyAbove.j0 k l0 l1 (decide ((l1.length : Int) > 1048576)))) = some r := h
  clear h
  have HC3 := Aside0.mk H
  clear H
  go_enter Try.func4, Try.ntmps4
  go_upto_region 1 with (fail)
  go_cut [16] (fun v16 wc => ∃ (kq : Nat) (x16_2 : Bool), v16 = .bool x16_2 ∧ Aside0 (laws_FnKeyAbove.j0 kq l0 l1 x16_2 = some r) ∧ Aside0 (kq ≤ k) ∧ Aside0 (Below w.heap.size w wc))
  case first =>
    have H := HC3.out
    clear HC3
    by_cases c4 : (l0.length : Int) > 1048576
    · rw [if_pos c4] at H
      have c4b0 : decide (1048576 < (l0.length : Int)) = true := decide_eq_true c4
      have c4b1 : decide (1048576 < l0.length) = true := decide_eq_true (by omega)
      clear c4
      (first | rw [c4b0] | (simp only [i64_w, i32_w]; rw [c4b0]) | skip)
      have H' := Aside0.mk H
      clear H
      go_wp2
      go_meet
      case rel => exact ⟨_, (true), (by first | rfl | (simp; done) | (simp [*]; done)), H', ⟨by first | omega | exact Nat.le_refl _⟩, ⟨by repeat (first | (with_reducible first | exact HB.out | apply below_alloc | apply pw_below_drewN | apply below_drew1) | exact HB.out)⟩⟩
    · rw [if_neg c4] at H
      have c4b0 : decide (1048576 < (l0.length : Int)) = false := decide_eq_false c4
      have c4b1 : decide (1048576 < l0.length) = false := decide_eq_false (by omega)
      clear c4
      (first | rw [c4b0] | (simp only [i64_w, i32_w]; rw [c4b0]) | skip)
      have H' := Aside0.mk H
      clear H
      go_wp2
      go_meet
      case rel => exact ⟨_, (decide ((l1.length : Int) > 1048576)), (by first | rfl | (simp; done) | (simp [*]; done)), H', ⟨by first | omega | exact Nat.le_refl _⟩, ⟨by repeat (first | (with_reducible first | exact HB.out | apply below_alloc | apply pw_below_drewN | apply below_drew1) | exact HB.out)⟩⟩
  case rest =>
    clear HC3
    try clear c1
    try clear p2
    try clear c4
    try clear c4b0
    try clear c4b1
    obtain ⟨kq, x16_2, rfl, HA, HJ2, HB⟩ := hcut
    cases kq with
    | zero => exact absurd HA.out (by simp [laws_FnKeyAbove.j0])
    | succ kj2 =>
      have H := HA.out
      clear HA
      simp only [laws_FnKeyAbove.j0] at H
      by_cases c5 : x16_2 = true
      · subst c5
        have H1 : (some true) = some r := by rw [if_pos rfl] at H; exact H
        clear H
        have H := H1
        clear H1
        obtain rfl := Option.some.inj H
        go_wp2
        go_ret
        exact ⟨by first | rfl | (simp [errW_none, errW_some] <;> rfl) | (simp [*, errW_none, errW_some] <;> rfl), by repeat (first | (with_reducible first | exact HB.out | apply below_alloc | apply pw_below_drewN | apply below_drew1) | exact HB.out)⟩
      · replace c5 := Bool.eq_false_iff.mpr c5
        subst c5
        have H1 : ((spec_DrawKeyAbove.f kj2 l0).bind fun t131 => ((spec_DrawKeyAbove.f kj2 l1).bind fun t132 => ((impl_KeyAbove.f t131).bind fun t133 => ((spec_KeyAbove.f kj2 t131).bind fun t134 => (if t133.toList = t134.toList then (if t133.toList = ([] : List UInt8) then (if (t132.size : Int) ≥ (t131.size : Int) then (if 0 ≤ (t131.size : Int) then (if (t131.size : Int) ≤ (t132.size : Int) then (if ((Op.bytesLess t132.toList t131.toList) = true) then (if (((t132.extract 0 ((t131.size : Int) : Int).toNat).toList == t131.toList) == false) = true then (some true) else (some (!((t132.extract 0 ((t131.size : Int) : Int).toNat).toList == t131.toList)))) else (if (((t132.extract 0 ((t131.size : Int) : Int).toNat).toList == t131.toList) == true) = true then (some true) else (some (!((t132.extract 0 ((t131.size : Int) : Int).toNat).toList == t131.toList))))) else (none)) else (none)) else (if ((Op.bytesLess t132.toList t131.toList) = true) then (if (false == false) = true then (some true) else (some (!false))) else (if (false == true) = true then (some true) else (some (!false))))) else (if t131.size + t132.size ≤ 9223372036854775807 then (if ((Op.bytesLess ((t131 ++ t132).toList) t133.toList) = true) then (if ((Op.bytesLess t131.toList t133.toList) = true) then (if (t132.size : Int) ≥ (t131.size : Int) then (if 0 ≤ (t131.size : Int) then (if (t131.size : Int) ≤ (t132.size : Int) then (if ((Op.bytesLess t132.toList t131.toList) = true) then (if (((t132.extract 0 ((t131.size : Int) : Int).toNat).toList == t131.toList) == false) = true then (some true) else (some false)) else (if (((t132.extract 0 ((t131.size : Int) : Int).toNat).toList == t131.toList) == (Op.bytesLess t132.toList t133.toList)) = true then (some true) else (some false))) else (none)) else (none)) else (if ((Op.bytesLess t132.toList t131.toList) = true) then (if (false == false) = true then (some true) else (some false)) else (if (false == (Op.bytesLess t132.toList t133.toList)) = true then (some true) else (some false)))) else (some false)) else (some false)) else (none))) else (some false)))))) = some r := by rw [if_neg (show ¬ (false = true) by decide)] at H; exact H
        clear H
        have H := H1
        clear H1
        replace H := Option.bind_eq_some_iff.mp H
        obtain ⟨t131, A60, H⟩ := H
        replace H : ((spec_DrawKeyAbove.f kj2 l1).bind fun t132 => ((impl_KeyAbove.f t131).bind fun t133 => ((spec_KeyAbove.f kj2 t131).bind fun t134 => (if t133.toList = t134.toList then (if t133.toList = ([] : List UInt8) then (if (t132.size : Int) ≥ (t131.size : Int) then (if 0 ≤ (t131.size : Int) then (if (t131.size : Int) ≤ (t132.size : Int) then (if ((Op.bytesLess t132.toList t131.toList) = true) then (if (((t132.extract 0 ((t131.size : Int) : Int).toNat).toList == t131.toList) == false) = true then (some true) else (some (!((t132.extract 0 ((t131.size : Int) : Int).toNat).toList == t131.toList)))) else (if (((t132.extract 0 ((t131.size : Int) : Int).toNat).toList == t131.toList) == true) = true then (some true) else (some (!((t132.extract 0 ((t131.size : Int) : Int).toNat).toList == t131.toList))))) else (none)) else (none)) else (if ((Op.bytesLess t132.toList t131.toList) = true) then (if (false == false) = true then (some true) else (some (!false))) else (if (false == true) = true then (some true) else (some (!false))))) else (if t131.size + t132.size ≤ 9223372036854775807 then (if ((Op.bytesLess ((t131 ++ t132).toList) t133.toList) = true) then (if ((Op.bytesLess t131.toList t133.toList) = true) then (if (t132.size : Int) ≥ (t131.size : Int) then (if 0 ≤ (t131.size : Int) then (if (t131.size : Int) ≤ (t132.size : Int) then (if ((Op.bytesLess t132.toList t131.toList) = true) then (if (((t132.extract 0 ((t131.size : Int) : Int).toNat).toList == t131.toList) == false) = true then (some true) else (some false)) else (if (((t132.extract 0 ((t131.size : Int) : Int).toNat).toList == t131.toList) == (Op.bytesLess t132.toList t133.toList)) = true then (some true) else (some false))) else (none)) else (none)) else (if ((Op.bytesLess t132.toList t131.toList) = true) then (if (false == false) = true then (some true) else (some false)) else (if (false == (Op.bytesLess t132.toList t133.toList)) = true then (some true) else (some false)))) else (some false)) else (some false)) else (none))) else (some false))))) = some r := H
        have A6 := Aside0.mk A60
        clear A60
        replace H := Option.bind_eq_some_iff.mp H
        obtain ⟨t132, A70, H⟩ := H
        replace H : ((impl_KeyAbove.f t131).bind fun t133 => ((spec_KeyAbove.f kj2 t131).bind fun t134 => (if t133.toList = t134.toList then (if t133.toList = ([] : List UInt8) then (if (t132.size : Int) ≥ (t131.size : Int) then (if 0 ≤ (t131.size : Int) then (if (t131.size : Int) ≤ (t132.size : Int) then (if ((Op.bytesLess t132.toList t131.toList) = true) then (if (((t132.extract 0 ((t131.size : Int) : Int).toNat).toList == t131.toList) == false) = true then (some true) else (some (!((t132.extract 0 ((t131.size : Int) : Int).toNat).toList == t131.toList)))) else (if (((t132.extract 0 ((t131.size : Int) : Int).toNat).toList == t131.toList) == true) = true then (some true) else (some (!((t132.extract 0 ((t131.size : Int) : Int).toNat).toList == t131.toList))))) else (none)) else (none)) else (if ((Op.bytesLess t132.toList t131.toList) = true) then (if (false == false) = true then (some true) else (some (!false))) else (if (false == true) = true then (some true) else (some (!false))))) else (if t131.size + t132.size ≤ 9223372036854775807 then (if ((Op.bytesLess ((t131 ++ t132).toList) t133.toList) = true) then (if ((Op.bytesLess t131.toList t133.toList) = true) then (if (t132.size : Int) ≥ (t131.size : Int) then (if 0 ≤ (t131.size : Int) then (if (t131.size : Int) ≤ (t132.size : Int) then (if ((Op.bytesLess t132.toList t131.toList) = true) then (if (((t132.extract 0 ((t131.size : Int) : Int).toNat).toList == t131.toList) == false) = true then (some true) else (some false)) else (if (((t132.extract 0 ((t131.size : Int) : Int).toNat).toList == t131.toList) == (Op.bytesLess t132.toList t133.toList)) = true then (some true) else (some false))) else (none)) else (none)) else (if ((Op.bytesLess t132.toList t131.toList) = true) then (if (false == false) = true then (some true) else (some false)) else (if (false == (Op.bytesLess t132.toList t133.toList)) = true then (some true) else (some false)))) else (some false)) else (some false)) else (none))) else (some false)))) = some r := H
        have A7 := Aside0.mk A70
        clear A70
        replace H := Option.bind_eq_some_iff.mp H
        obtain ⟨t133, A80, H⟩ := H
        replace H : ((spec_KeyAbove.f kj2 t131).bind fun t134 => (if t133.toList = t134.toList then (if t133.toList = ([] : List UInt8) then (if (t132.size : Int) ≥ (t131.size : Int) then (if 0 ≤ (t131.size : Int) then (if (t131.size : Int) ≤ (t132.size : Int) then (if ((Op.bytesLess t132.toList t131.toList) = true) then (if (((t132.extract 0 ((t131.size : Int) : Int).toNat).toList == t131.toList) == false) = true then (some true) else (some (!((t132.extract 0 ((t131.size : Int) : Int).toNat).toList == t131.toList)))) else (if (((t132.extract 0 ((t131.size : Int) : Int).toNat).toList == t131.toList) == true) = true then (some true) else (some (!((t132.extract 0 ((t131.size : Int) : Int).toNat).toList == t131.toList))))) else (none)) else (none)) else (if ((Op.bytesLess t132.toList t131.toList) = true) then (if (false == false) = true then (some true) else (some (!false))) else (if (false == true) = true then (some true) else (some (!false))))) else (if t131.size + t132.size ≤ 9223372036854775807 then (if ((Op.bytesLess ((t131 ++ t132).toList) t133.toList) = true) then (if ((Op.bytesLess t131.toList t133.toList) = true) then (if (t132.size : Int) ≥ (t131.size : Int) then (if 0 ≤ (t131.size : Int) then (if (t131.size : Int) ≤ (t132.size : Int) then (if ((Op.bytesLess t132.toList t131.toList) = true) then (if (((t132.extract 0 ((t131.size : Int) : Int).toNat).toList == t131.toList) == false) = true then (some true) else (some false)) else (if (((t132.extract 0 ((t131.size : Int) : Int).toNat).toList == t131.toList) == (Op.bytesLess t132.toList t133.toList)) = true then (some true) else (some false))) else (none)) else (none)) else (if ((Op.bytesLess t132.toList t131.toList) = true) then (if (false == false) = true then (some true) else (some false)) else (if (false == (Op.bytesLess t132.toList t133.toList)) = true then (some true) else (some false)))) else (some false)) else (some false)) else (none))) else (some false))) = some r := H
        have A8 := Aside0.mk A80
        clear A80
        replace H := Option.bind_eq_some_iff.mp H
        obtain ⟨t134, A90, H⟩ := H
        replace H : (if t133.toList = t134.toList then (if t133.toList = ([] : List UInt8) then (if (t132.size : Int) ≥ (t131.size : Int) then (if 0 ≤ (t131.size : Int) then (if (t131.size : Int) ≤ (t132.size : Int) then (if ((Op.bytesLess t132.toList t131.toList) = true) then (if (((t132.extract 0 ((t131.size : Int) : Int).toNat).toList == t131.toList) == false) = true then (some true) else (some (!((t132.extract 0 ((t131.size : Int) : Int).toNat).toList == t131.toList)))) else (if (((t132.extract 0 ((t131.size : Int) : Int).toNat).toList == t131.toList) == true) = true then (some true) else (some (!((t132.extract 0 ((t131.size : Int) : Int).toNat).toList == t131.toList))))) else (none)) else (none)) else (if ((Op.bytesLess t132.toList t131.toList) = true) then (if (false == false) = true then (some true) else (some (!false))) else (if (false == true) = true then (some true) else (some (!false))))) else (if t131.size + t132.size ≤ 9223372036854775807 then (if ((Op.bytesLess ((t131 ++ t132).toList) t133.toList) = true) then (if ((Op.bytesLess t131.toList t133.toList) = true) then (if (t132.size : Int) ≥ (t131.size : Int) then (if 0 ≤ (t131.size : Int) then (if (t131.size : Int) ≤ (t132.size : Int) then (if ((Op.bytesLess t132.toList t131.toList) = true) then (if (((t132.extract 0 ((t131.size : Int) : Int).toNat).toList == t131.toList) == false) = true then (some true) else (some false)) else (if (((t132.extract 0 ((t131.size : Int) : Int).toNat).toList == t131.toList) == (Op.bytesLess t132.toList t133.toList)) = true then (some true) else (some false))) else (none)) else (none)) else (if ((Op.bytesLess t132.toList t131.toList) = true) then (if (false == false) = true then (some true) else (some false)) else (if (false == (Op.bytesLess t132.toList t133.toList)) = true then (some true) else (some false)))) else (some false)) else (some false)) else (none))) else (some false)) = some r := H
        have A9 := Aside0.mk A90
        clear A90
        by_cases c10 : t133.toList = t134.toList
        · rw [if_pos c10] at H
          have c10b0 : (t133.toList == t134.toList) = true := beq_iff_eq.mpr c10
          have c10b1 : (t133.toList != t134.toList) = false := bne_eq_false_iff_eq.mpr c10
          clear c10
          by_cases c11 : t133.toList = ([] : List UInt8)
          · rw [if_pos c11] at H
            have c11b0 : (t133.toList == ([] : List UInt8)) = true := beq_iff_eq.mpr c11
            have c11b1 : (t133.toList != ([] : List UInt8)) = false := bne_eq_false_iff_eq.mpr c11
            clear c11
            by_cases c12 : (t132.size : Int) ≥ (t131.size : Int)
            · rw [if_pos c12] at H
              have c12b0 : decide ((t131.size : Int) ≤ (t132.size : Int)) = true := decide_eq_true c12
              have c12b1 : decide (t131.size ≤ t132.size) = true := decide_eq_true (Int.ofNat_le.mp c12)
              clear c12
              by_cases c13 : 0 ≤ (t131.size : Int)
              · rw [if_pos c13] at H
                have c13b0 := eq_true c13
                have c13b1 : decide (0 ≤ (t131.size : Int)) = true := decide_eq_true c13
                clear c13
                by_cases c14 : (t131.size : Int) ≤ (t132.size : Int)
                · rw [if_pos c14] at H
                  have c14b0 := eq_true c14
                  have c14b1 : decide ((t131.size : Int) ≤ (t132.size : Int)) = true := decide_eq_true c14
                  clear c14
                  by_cases c15 : ((Op.bytesLess t132.toList t131.toList) = true)
                  · rw [if_pos c15] at H
                    have c15b0 : (Op.bytesLess t132.toList t131.toList) = true := c15
                    clear c15
                    by_cases c16 : (((t132.extract 0 ((t131.size : Int) : Int).toNat).toList == t131.toList) == false) = true
                    · rw [if_pos c16] at H
                      have c16b0 : (((t132.extract 0 ((t131.size : Int) : Int).toNat).toList == t131.toList) == false) = true := c16
                      (try (have c16b8 : ((t132.extract 0 t131.size).toList == t131.toList) = false := by simpa using c16))
                      (try (have c16b1 : decide (((t132.extract 0 ((t131.size : Int) : Int).toNat).toList == t131.toList) = false) = true := by simpa using c16))
                      (try (have c16b2 : (((t132.extract 0 ((t131.size : Int) : Int).toNat).toList == t131.toList) == false) = true := by simpa using c16))
                      clear c16
                      obtain rfl := Option.some.inj H
                      go_wp2_with (first | ((with_reducible refine gate_callee (f := 17) rfl ?_); refine goesL_ (some 18) rfl rfl Try.func17 (by kernel_rfl) rfl #[.slice A0 l0.length c0] rfl (by (try simp only [List.map_toArray, List.map_cons, List.map_nil]); first | done | rfl | (simp only [List.length_drop, List.length_take]; rfl)) ?_; (with_reducible refine (spec_DrawKeyAbove.calls kj2 _ _ l0 t131 _ ?side1 ?side2 A6.out).mono ?_); (case side1 => repeat (first | exact (Kd.C_below HR0.out HB.out) | (with_reducible refine Kd.C_alloc ?_ _) | (with_reducible refine Kd.C_drewN ?_ _) | (with_reducible refine Kd.C_drew ?_))); (case side2 => exact HC0.out); rintro e w17 ⟨rfl, hb⟩; refine ⟨_, rfl, ?_⟩; have n0_ := Aside0.mk (below_step (by repeat (first | (with_reducible first | exact HB.out | apply below_alloc | apply pw_below_drewN | apply below_drew1) | exact HB.out)) hb); clear HB; have HB := n0_; clear n0_; (try clear hb); (try clear hb2); (try clear hk); (try clear hi)) | ((with_reducible refine gate_callee (f := 17) rfl ?_); refine goesL_ (some 20) rfl rfl Try.func17 (by kernel_rfl) rfl #[.slice A1 l1.length c1] rfl (by (try simp only [List.map_toArray, List.map_cons, List.map_nil]); first | done | rfl | (simp only [List.length_drop, List.length_take]; rfl)) ?_; (with_reducible refine (spec_DrawKeyAbove.calls kj2 _ _ l1 t132 _ ?side1 ?side2 A7.out).mono ?_); (case side1 => repeat (first | exact (Kd.C_below HR1.out HB.out) | (with_reducible refine Kd.C_alloc ?_ _) | (with_reducible refine Kd.C_drewN ?_ _) | (with_reducible refine Kd.C_drew ?_))); (case side2 => exact HC1.out); rintro e w18 ⟨rfl, hb⟩; refine ⟨_, rfl, ?_⟩; have n0_ := Aside0.mk (below_step (by repeat (first | (with_reducible first | exact HB.out | apply below_alloc | apply pw_below_drewN | apply below_drew1) | exact HB.out)) hb); clear HB; have HB := n0_; clear n0_; (try clear hb); (try clear hb2); (try clear hk); (try clear hi)) | ((with_reducible refine gate_callee (f := 16) rfl ?_); refine goesL_ (some 22) rfl rfl Try.func16 (by kernel_rfl) rfl #[.string t131] rfl (by (try simp only [List.map_toArray, List.map_cons, List.map_nil]); first | done | rfl | (simp only [List.length_drop, List.length_take]; rfl)) ?_; (with_reducible refine (impl_KeyAbove.calls t131 t133 _ A8.out).mono ?_); rintro e w19 ⟨rfl, hb⟩; refine ⟨_, rfl, ?_⟩; have n0_ := Aside0.mk (below_step (by repeat (first | (with_reducible first | exact HB.out | apply below_alloc | apply pw_below_drewN | apply below_drew1) | exact HB.out)) hb); clear HB; have HB := n0_; clear n0_; (try clear hb); (try clear hb2); (try clear hk); (try clear hi)) | ((with_reducible refine gate_callee (f := 15) rfl ?_); refine goesL_ (some 25) rfl rfl Try.func15 (by kernel_rfl) rfl #[.string t131] rfl (by (try simp only [List.map_toArray, List.map_cons, List.map_nil]); first | done | rfl | (simp only [List.length_drop, List.length_take]; rfl)) ?_; (with_reducible refine (spec_KeyAbove.calls kj2 t131 t134 _ A9.out).mono ?_); rintro e w20 ⟨rfl, hb⟩; refine ⟨_, rfl, ?_⟩; have n0_ := Aside0.mk (below_step (by repeat (first | (with_reducible first | exact HB.out | apply below_alloc | apply pw_below_drewN | apply below_drew1) | exact HB.out)) hb); clear HB; have HB := n0_; clear n0_; (try clear hb); (try clear hb2); (try clear hk); (try clear hi)))
                      go_ret
                      exact ⟨by first | rfl | (simp [errW_none, errW_some] <;> rfl) | (simp [*, errW_none, errW_some] <;> rfl), by repeat (first | (with_reducible first | exact HB.out | apply below_alloc | apply pw_below_drewN | apply below_drew1) | exact HB.out)⟩
                    · rw [if_neg c16] at H
                      have c16b0 : (((t132.extract 0 ((t131.size : Int) : Int).toNat).toList == t131.toList) == false) = false := by simpa using c16
                      (try (have c16b8 : ((t132.extract 0 t131.size).toList == t131.toList) = true := by simpa using c16))
                      (try (have c16b1 : decide (((t132.extract 0 ((t131.size : Int) : Int).toNat).toList == t131.toList) = false) = false := by simpa using c16))
                      (try (have c16b2 : (((t132.extract 0 ((t131.size : Int) : Int).toNat).toList == t131.toList) == false) = false := by simpa using c16))
                      (try (have c16b3 : ¬ (((t132.extract 0 ((t131.size : Int) : Int).toNat).toList == t131.toList) = false) := by simpa using c16))
                      clear c16
                      obtain rfl := Option.some.inj H
                      go_wp2_with (first | ((with_reducible refine gate_callee (f := 17) rfl ?_); refine goesL_ (some 18) rfl rfl Try.func17 (by kernel_rfl) rfl #[.slice A0 l0.length c0] rfl (by (try simp only [List.map_toArray, List.map_cons, List.map_nil]); first | done | rfl | (simp only [List.length_drop, List.length_take]; rfl)) ?_; (with_reducible refine (spec_DrawKeyAbove.calls kj2 _ _ l0 t131 _ ?side1 ?side2 A6.out).mono ?_); (case side1 => repeat (first | exact (Kd.C_below HR0.out HB.out) | (with_reducible refine Kd.C_alloc ?_ _) | (with_reducible refine Kd.C_drewN ?_ _) | (with_reducible refine Kd.C_drew ?_))); (case side2 => exact HC0.out); rintro e w21 ⟨rfl, hb⟩; refine ⟨_, rfl, ?_⟩; have n0_ := Aside0.mk (below_step (by repeat (first | (with_reducible first | exact HB.out | apply below_alloc | apply pw_below_drewN | apply below_drew1) | exact HB.out)) hb); clear HB; have HB := n0_; clear n0_; (try clear hb); (try clear hb2); (try clear hk); (try clear hi)) | ((with_reducible refine gate_callee (f := 17) rfl ?_); refine goesL_ (some 20) rfl rfl Try.func17 (by kernel_rfl) rfl #[.slice A1 l1.length c1] rfl (by (try simp only [List.map_toArray, List.map_cons, List.map_nil]); first | done | rfl | (simp only [List.length_drop, List.length_take]; rfl)) ?_; (with_reducible refine (spec_DrawKeyAbove.calls kj2 _ _ l1 t132 _ ?side1 ?side2 A7.out).mono ?_); (case side1 => repeat (first | exact (Kd.C_below HR1.out HB.out) | (with_reducible refine Kd.C_alloc ?_ _) | (with_reducible refine Kd.C_drewN ?_ _) | (with_reducible refine Kd.C_drew ?_))); (case side2 => exact HC1.out); rintro e w22 ⟨rfl, hb⟩; refine ⟨_, rfl, ?_⟩; have n0_ := Aside0.mk (below_step (by repeat (first | (with_reducible first | exact HB.out | apply below_alloc | apply pw_below_drewN | apply below_drew1) | exact HB.out)) hb); clear HB; have HB := n0_; clear n0_; (try clear hb); (try clear hb2); (try clear hk); (try clear hi)) | ((with_reducible refine gate_callee (f := 16) rfl ?_); refine goesL_ (some 22) rfl rfl Try.func16 (by kernel_rfl) rfl #[.string t131] rfl (by (try simp only [List.map_toArray, List.map_cons, List.map_nil]); first | done | rfl | (simp only [List.length_drop, List.length_take]; rfl)) ?_; (with_reducible refine (impl_KeyAbove.calls t131 t133 _ A8.out).mono ?_); rintro e w23 ⟨rfl, hb⟩; refine ⟨_, rfl, ?_⟩; have n0_ := Aside0.mk (below_step (by repeat (first | (with_reducible first | exact HB.out | apply below_alloc | apply pw_below_drewN | apply below_drew1) | exact HB.out)) hb); clear HB; have HB := n0_; clear n0_; (try clear hb); (try clear hb2); (try clear hk); (try clear hi)) | ((with_reducible refine gate_callee (f := 15) rfl ?_); refine goesL_ (some 25) rfl rfl Try.func15 (by kernel_rfl) rfl #[.string t131] rfl (by (try simp only [List.map_toArray, List.map_cons, List.map_nil]); first | done | rfl | (simp only [List.length_drop, List.length_take]; rfl)) ?_; (with_reducible refine (spec_KeyAbove.calls kj2 t131 t134 _ A9.out).mono ?_); rintro e w24 ⟨rfl, hb⟩; refine ⟨_, rfl, ?_⟩; have n0_ := Aside0.mk (below_step (by repeat (first | (with_reducible first | exact HB.out | apply below_alloc | apply pw_below_drewN | apply below_drew1) | exact HB.out)) hb); clear HB; have HB := n0_; clear n0_; (try clear hb); (try clear hb2); (try clear hk); (try clear hi)))
                      go_ret
                      exact ⟨by first | rfl | (simp [errW_none, errW_some] <;> rfl) | (simp [*, errW_none, errW_some] <;> rfl), by repeat (first | (with_reducible first | exact HB.out | apply below_alloc | apply pw_below_drewN | apply below_drew1) | exact HB.out)⟩
                  · rw [if_neg c15] at H
                    have c15b0 : (Op.bytesLess t132.toList t131.toList) = false := by simpa using c15
                    clear c15
                    by_cases c25 : (((t132.extract 0 ((t131.size : Int) : Int).toNat).toList == t131.toList) == true) = true
                    · rw [if_pos c25] at H
                      have c25b0 : (((t132.extract 0 ((t131.size : Int) : Int).toNat).toList == t131.toList) == true) = true := c25
                      (try (have c25b8 : ((t132.extract 0 t131.size).toList == t131.toList) = true := by simpa using c25))
                      (try (have c25b1 : decide (((t132.extract 0 ((t131.size : Int) : Int).toNat).toList == t131.toList) = true) = true := by simpa using c25))
                      (try (have c25b2 : (((t132.extract 0 ((t131.size : Int) : Int).toNat).toList == t131.toList) == true) = true := by simpa using c25))
                      clear c25
                      obtain rfl := Option.some.inj H
                      go_wp2_with (first | ((with_reducible refine gate_callee (f := 17) rfl ?_); refine goesL_ (some 18) rfl rfl Try.func17 (by kernel_rfl) rfl #[.slice A0 l0.length c0] rfl (by (try simp only [List.map_toArray, List.map_cons, List.map_nil]); first | done | rfl | (simp only [List.length_drop, List.length_take]; rfl)) ?_; (with_reducible refine (spec_DrawKeyAbove.calls kj2 _ _ l0 t131 _ ?side1 ?side2 A6.out).mono ?_); (case side1 => repeat (first | exact (Kd.C_below HR0.out HB.out) | (with_reducible refine Kd.C_alloc ?_ _) | (with_reducible refine Kd.C_drewN ?_ _) | (with_reducible refine Kd.C_drew ?_))); (case side2 => exact HC0.out); rintro e w26 ⟨rfl, hb⟩; refine ⟨_, rfl, ?_⟩; have n0_ := Aside0.mk (below_step (by repeat (first | (with_reducible first | exact HB.out | apply below_alloc | apply pw_below_drewN | apply below_drew1) | exact HB.out)) hb); clear HB; have HB := n0_; clear n0_; (try clear hb); (try clear hb2); (try clear hk); (try clear hi)) | ((with_reducible refine gate_callee (f := 17) rfl ?_); refine goesL_ (some 20) rfl rfl Try.func17 (by kernel_rfl) rfl #[.slice A1 l1.length c1] rfl (by (try simp only [List.map_toArray, List.map_cons, List.map_nil]); first | done | rfl | (simp only [List.length_drop, List.length_take]; rfl)) ?_; (with_reducible refine (spec_DrawKeyAbove.calls kj2 _ _ l1 t132 _ ?side1 ?side2 A7.out).mono ?_); (case side1 => repeat (first | exact (Kd.C_below HR1.out HB.out) | (with_reducible refine Kd.C_alloc ?_ _) | (with_reducible refine Kd.C_drewN ?_ _) | (with_reducible refine Kd.C_drew ?_))); (case side2 => exact HC1.out); rintro e w27 ⟨rfl, hb⟩; refine ⟨_, rfl, ?_⟩; have n0_ := Aside0.mk (below_step (by repeat (first | (with_reducible first | exact HB.out | apply below_alloc | apply pw_below_drewN | apply below_drew1) | exact HB.out)) hb); clear HB; have HB := n0_; clear n0_; (try clear hb); (try clear hb2); (try clear hk); (try clear hi)) | ((with_reducible refine gate_callee (f := 16) rfl ?_); refine goesL_ (some 22) rfl rfl Try.func16 (by kernel_rfl) rfl #[.string t131] rfl (by (try simp only [List.map_toArray, List.map_cons, List.map_nil]); first | done | rfl | (simp only [List.length_drop, List.length_take]; rfl)) ?_; (with_reducible refine (impl_KeyAbove.calls t131 t133 _ A8.out).mono ?_); rintro e w28 ⟨rfl, hb⟩; refine ⟨_, rfl, ?_⟩; have n0_ := Aside0.mk (below_step (by repeat (first | (with_reducible first | exact HB.out | apply below_alloc | apply pw_below_drewN | apply below_drew1) | exact HB.out)) hb); clear HB; have HB := n0_; clear n0_; (try clear hb); (try clear hb2); (try clear hk); (try clear hi)) | ((with_reducible refine gate_callee (f := 15) rfl ?_); refine goesL_ (some 25) rfl rfl Try.func15 (by kernel_rfl) rfl #[.string t131] rfl (by (try simp only [List.map_toArray, List.map_cons, List.map_nil]); first | done | rfl | (simp only [List.length_drop, List.length_take]; rfl)) ?_; (with_reducible refine (spec_KeyAbove.calls kj2 t131 t134 _ A9.out).mono ?_); rintro e w29 ⟨rfl, hb⟩; refine ⟨_, rfl, ?_⟩; have n0_ := Aside0.mk (below_step (by repeat (first | (with_reducible first | exact HB.out | apply below_alloc | apply pw_below_drewN | apply below_drew1) | exact HB.out)) hb); clear HB; have HB := n0_; clear n0_; (try clear hb); (try clear hb2); (try clear hk); (try clear hi)))
                      go_ret
                      exact ⟨by first | rfl | (simp [errW_none, errW_some] <;> rfl) | (simp [*, errW_none, errW_some] <;> rfl), by repeat (first | (with_reducible first | exact HB.out | apply below_alloc | apply pw_below_drewN | apply below_drew1) | exact HB.out)⟩
                    · rw [if_neg c25] at H
                      have c25b0 : (((t132.extract 0 ((t131.size : Int) : Int).toNat).toList == t131.toList) == true) = false := by simpa using c25
                      (try (have c25b8 : ((t132.extract 0 t131.size).toList == t131.toList) = false := by simpa using c25))
                      (try (have c25b1 : decide (((t132.extract 0 ((t131.size : Int) : Int).toNat).toList == t131.toList) = true) = false := by simpa using c25))
                      (try (have c25b2 : (((t132.extract 0 ((t131.size : Int) : Int).toNat).toList == t131.toList) == true) = false := by simpa using c25))
                      (try (have c25b3 : ¬ (((t132.extract 0 ((t131.size : Int) : Int).toNat).toList == t131.toList) = true) := by simpa using c25))
                      clear c25
                      obtain rfl := Option.some.inj H
                      go_wp2_with (first | ((with_reducible refine gate_callee (f := 17) rfl ?_); refine goesL_ (some 18) rfl rfl Try.func17 (by kernel_rfl) rfl #[.slice A0 l0.length c0] rfl (by (try simp only [List.map_toArray, List.map_cons, List.map_nil]); first | done | rfl | (simp only [List.length_drop, List.length_take]; rfl)) ?_; (with_reducible refine (spec_DrawKeyAbove.calls kj2 _ _ l0 t131 _ ?side1 ?side2 A6.out).mono ?_); (case side1 => repeat (first | exact (Kd.C_below HR0.out HB.out) | (with_reducible refine Kd.C_alloc ?_ _) | (with_reducible refine Kd.C_drewN ?_ _) | (with_reducible refine Kd.C_drew ?_))); (case side2 => exact HC0.out); rintro e w30 ⟨rfl, hb⟩; refine ⟨_, rfl, ?_⟩; have n0_ := Aside0.mk (below_step (by repeat (first | (with_reducible first | exact HB.out | apply below_alloc | apply pw_below_drewN | apply below_drew1) | exact HB.out)) hb); clear HB; have HB := n0_; clear n0_; (try clear hb); (try clear hb2); (try clear hk); (try clear hi)) | ((with_reducible refine gate_callee (f := 17) rfl ?_); refine goesL_ (some 20) rfl rfl Try.func17 (by kernel_rfl) rfl #[.slice A1 l1.length c1] rfl (by (try simp only [List.map_toArray, List.map_cons, List.map_nil]); first | done | rfl | (simp only [List.length_drop, List.length_take]; rfl)) ?_; (with_reducible refine (spec_DrawKeyAbove.calls kj2 _ _ l1 t132 _ ?side1 ?side2 A7.out).mono ?_); (case side1 => repeat (first | exact (Kd.C_below HR1.out HB.out) | (with_reducible refine Kd.C_alloc ?_ _) | (with_reducible refine Kd.C_drewN ?_ _) | (with_reducible refine Kd.C_drew ?_))); (case side2 => exact HC1.out); rintro e w31 ⟨rfl, hb⟩; refine ⟨_, rfl, ?_⟩; have n0_ := Aside0.mk (below_step (by repeat (first | (with_reducible first | exact HB.out | apply below_alloc | apply pw_below_drewN | apply below_drew1) | exact HB.out)) hb); clear HB; have HB := n0_; clear n0_; (try clear hb); (try clear hb2); (try clear hk); (try clear hi)) | ((with_reducible refine gate_callee (f := 16) rfl ?_); refine goesL_ (some 22) rfl rfl Try.func16 (by kernel_rfl) rfl #[.string t131] rfl (by (try simp only [List.map_toArray, List.map_cons, List.map_nil]); first | done | rfl | (simp only [List.length_drop, List.length_take]; rfl)) ?_; (with_reducible refine (impl_KeyAbove.calls t131 t133 _ A8.out).mono ?_); rintro e w32 ⟨rfl, hb⟩; refine ⟨_, rfl, ?_⟩; have n0_ := Aside0.mk (below_step (by repeat (first | (with_reducible first | exact HB.out | apply below_alloc | apply pw_below_drewN | apply below_drew1) | exact HB.out)) hb); clear HB; have HB := n0_; clear n0_; (try clear hb); (try clear hb2); (try clear hk); (try clear hi)) | ((with_reducible refine gate_callee (f := 15) rfl ?_); refine goesL_ (some 25) rfl rfl Try.func15 (by kernel_rfl) rfl #[.string t131] rfl (by (try simp only [List.map_toArray, List.map_cons, List.map_nil]); first | done | rfl | (simp only [List.length_drop, List.length_take]; rfl)) ?_; (with_reducible refine (spec_KeyAbove.calls kj2 t131 t134 _ A9.out).mono ?_); rintro e w33 ⟨rfl, hb⟩; refine ⟨_, rfl, ?_⟩; have n0_ := Aside0.mk (below_step (by repeat (first | (with_reducible first | exact HB.out | apply below_alloc | apply pw_below_drewN | apply below_drew1) | exact HB.out)) hb); clear HB; have HB := n0_; clear n0_; (try clear hb); (try clear hb2); (try clear hk); (try clear hi)))
                      go_ret
                      exact ⟨by first | rfl | (simp [errW_none, errW_some] <;> rfl) | (simp [*, errW_none, errW_some] <;> rfl), by repeat (first | (with_reducible first | exact HB.out | apply below_alloc | apply pw_below_drewN | apply below_drew1) | exact HB.out)⟩
                · rw [if_neg c14] at H
                  exact absurd H (by simp)
              · rw [if_neg c13] at H
                exact absurd H (by simp)
            · rw [if_neg c12] at H
              have c12b0 : decide ((t131.size : Int) ≤ (t132.size : Int)) = false := decide_eq_false c12
              have c12b1 : decide (t131.size ≤ t132.size) = false := decide_eq_false (fun h => c12 (Int.ofNat_le.mpr h))
              clear c12
              by_cases c34 : ((Op.bytesLess t132.toList t131.toList) = true)
              · rw [if_pos c34] at H
                have c34b0 : (Op.bytesLess t132.toList t131.toList) = true := c34
                clear c34
                by_cases c35 : (false == false) = true
                · rw [if_pos c35] at H
                  have c35b0 : (false == false) = true := c35
                  clear c35
                  obtain rfl := Option.some.inj H
                  go_wp2_with (first | ((with_reducible refine gate_callee (f := 17) rfl ?_); refine goesL_ (some 18) rfl rfl Try.func17 (by kernel_rfl) rfl #[.slice A0 l0.length c0] rfl (by (try simp only [List.map_toArray, List.map_cons, List.map_nil]); first | done | rfl | (simp only [List.length_drop, List.length_take]; rfl)) ?_; (with_reducible refine (spec_DrawKeyAbove.calls kj2 _ _ l0 t131 _ ?side1 ?side2 A6.out).mono ?_); (case side1 => repeat (first | exact (Kd.C_below HR0.out HB.out) | (with_reducible refine Kd.C_alloc ?_ _) | (with_reducible refine Kd.C_drewN ?_ _) | (with_reducible refine Kd.C_drew ?_))); (case side2 => exact HC0.out); rintro e w36 ⟨rfl, hb⟩; refine ⟨_, rfl, ?_⟩; have n0_ := Aside0.mk (below_step (by repeat (first | (with_reducible first | exact HB.out | apply below_alloc | apply pw_below_drewN | apply below_drew1) | exact HB.out)) hb); clear HB; have HB := n0_; clear n0_; (try clear hb); (try clear hb2); (try clear hk); (try clear hi)) | ((with_reducible refine gate_callee (f := 17) rfl ?_); refine goesL_ (some 20) rfl rfl Try.func17 (by kernel_rfl) rfl #[.slice A1 l1.length c1] rfl (by (try simp only [List.map_toArray, List.map_cons, List.map_nil]); first | done | rfl | (simp only [List.length_drop, List.length_take]; rfl)) ?_; (with_reducible refine (spec_DrawKeyAbove.calls kj2 _ _ l1 t132 _ ?side1 ?side2 A7.out).mono ?_); (case side1 => repeat (first | exact (Kd.C_below HR1.out HB.out) | (with_reducible refine Kd.C_alloc ?_ _) | (with_reducible refine Kd.C_drewN ?_ _) | (with_reducible refine Kd.C_drew ?_))); (case side2 => exact HC1.out); rintro e w37 ⟨rfl, hb⟩; refine ⟨_, rfl, ?_⟩; have n0_ := Aside0.mk (below_step (by repeat (first | (with_reducible first | exact HB.out | apply below_alloc | apply pw_below_drewN | apply below_drew1) | exact HB.out)) hb); clear HB; have HB := n0_; clear n0_; (try clear hb); (try clear hb2); (try clear hk); (try clear hi)) | ((with_reducible refine gate_callee (f := 16) rfl ?_); refine goesL_ (some 22) rfl rfl Try.func16 (by kernel_rfl) rfl #[.string t131] rfl (by (try simp only [List.map_toArray, List.map_cons, List.map_nil]); first | done | rfl | (simp only [List.length_drop, List.length_take]; rfl)) ?_; (with_reducible refine (impl_KeyAbove.calls t131 t133 _ A8.out).mono ?_); rintro e w38 ⟨rfl, hb⟩; refine ⟨_, rfl, ?_⟩; have n0_ := Aside0.mk (below_step (by repeat (first | (with_reducible first | exact HB.out | apply below_alloc | apply pw_below_drewN | apply below_drew1) | exact HB.out)) hb); clear HB; have HB := n0_; clear n0_; (try clear hb); (try clear hb2); (try clear hk); (try clear hi)) | ((with_reducible refine gate_callee (f := 15) rfl ?_); refine goesL_ (some 25) rfl rfl Try.func15 (by kernel_rfl) rfl #[.string t131] rfl (by (try simp only [List.map_toArray, List.map_cons, List.map_nil]); first | done | rfl | (simp only [List.length_drop, List.length_take]; rfl)) ?_; (with_reducible refine (spec_KeyAbove.calls kj2 t131 t134 _ A9.out).mono ?_); rintro e w39 ⟨rfl, hb⟩; refine ⟨_, rfl, ?_⟩; have n0_ := Aside0.mk (below_step (by repeat (first | (with_reducible first | exact HB.out | apply below_alloc | apply pw_below_drewN | apply below_drew1) | exact HB.out)) hb); clear HB; have HB := n0_; clear n0_; (try clear hb); (try clear hb2); (try clear hk); (try clear hi)))
                  go_ret
                  exact ⟨by first | rfl | (simp [errW_none, errW_some] <;> rfl) | (simp [*, errW_none, errW_some] <;> rfl), by repeat (first | (with_reducible first | exact HB.out | apply below_alloc | apply pw_below_drewN | apply below_drew1) | exact HB.out)⟩
                · exact absurd rfl c35
              · rw [if_neg c34] at H
                have c34b0 : (Op.bytesLess t132.toList t131.toList) = false := by simpa using c34
                clear c34
                by_cases c44 : (false == true) = true
                · exact absurd c44 (by decide)
                · rw [if_neg c44] at H
                  have c44b0 : (false == true) = false := rfl
                  clear c44
                  obtain rfl := Option.some.inj H
                  go_wp2_with (first | ((with_reducible refine gate_callee (f := 17) rfl ?_); refine goesL_ (some 18) rfl rfl Try.func17 (by kernel_rfl) rfl #[.slice A0 l0.length c0] rfl (by (try simp only [List.map_toArray, List.map_cons, List.map_nil]); first | done | rfl | (simp only [List.length_drop, List.length_take]; rfl)) ?_; (with_reducible refine (spec_DrawKeyAbove.calls kj2 _ _ l0 t131 _ ?side1 ?side2 A6.out).mono ?_); (case side1 => repeat (first | exact (Kd.C_below HR0.out HB.out) | (with_reducible refine Kd.C_alloc ?_ _) | (with_reducible refine Kd.C_drewN ?_ _) | (with_reducible refine Kd.C_drew ?_))); (case side2 => exact HC0.out); rintro e w49 ⟨rfl, hb⟩; refine ⟨_, rfl, ?_⟩; have n0_ := Aside0.mk (below_step (by repeat (first | (with_reducible first | exact HB.out | apply below_alloc | apply pw_below_drewN | apply below_drew1) | exact HB.out)) hb); clear HB; have HB := n0_; clear n0_; (try clear hb); (try clear hb2); (try clear hk); (try clear hi)) | ((with_reducible refine gate_callee (f := 17) rfl ?_); refine goesL_ (some 20) rfl rfl Try.func17 (by kernel_rfl) rfl #[.slice A1 l1.length c1] rfl (by (try simp only [List.map_toArray, List.map_cons, List.map_nil]); first | done | rfl | (simp only [List.length_drop, List.length_take]; rfl)) ?_; (with_reducible refine (spec_DrawKeyAbove.calls kj2 _ _ l1 t132 _ ?side1 ?side2 A7.out).mono ?_); (case side1 => repeat (first | exact (Kd.C_below HR1.out HB.out) | (with_reducible refine Kd.C_alloc ?_ _) | (with_reducible refine Kd.C_drewN ?_ _) | (with_reducible refine Kd.C_drew ?_))); (case side2 => exact HC1.out); rintro e w50 ⟨rfl, hb⟩; refine ⟨_, rfl, ?_⟩; have n0_ := Aside0.mk (below_step (by repeat (first | (with_reducible first | exact HB.out | apply below_alloc | apply pw_below_drewN | apply below_drew1) | exact HB.out)) hb); clear HB; have HB := n0_; clear n0_; (try clear hb); (try clear hb2); (try clear hk); (try clear hi)) | ((with_reducible refine gate_callee (f := 16) rfl ?_); refine goesL_ (some 22) rfl rfl Try.func16 (by kernel_rfl) rfl #[.string t131] rfl (by (try simp only [List.map_toArray, List.map_cons, List.map_nil]); first | done | rfl | (simp only [List.length_drop, List.length_take]; rfl)) ?_; (with_reducible refine (impl_KeyAbove.calls t131 t133 _ A8.out).mono ?_); rintro e w51 ⟨rfl, hb⟩; refine ⟨_, rfl, ?_⟩; have n0_ := Aside0.mk (below_step (by repeat (first | (with_reducible first | exact HB.out | apply below_alloc | apply pw_below_drewN | apply below_drew1) | exact HB.out)) hb); clear HB; have HB := n0_; clear n0_; (try clear hb); (try clear hb2); (try clear hk); (try clear hi)) | ((with_reducible refine gate_callee (f := 15) rfl ?_); refine goesL_ (some 25) rfl rfl Try.func15 (by kernel_rfl) rfl #[.string t131] rfl (by (try simp only [List.map_toArray, List.map_cons, List.map_nil]); first | done | rfl | (simp only [List.length_drop, List.length_take]; rfl)) ?_; (with_reducible refine (spec_KeyAbove.calls kj2 t131 t134 _ A9.out).mono ?_); rintro e w52 ⟨rfl, hb⟩; refine ⟨_, rfl, ?_⟩; have n0_ := Aside0.mk (below_step (by repeat (first | (with_reducible first | exact HB.out | apply below_alloc | apply pw_below_drewN | apply below_drew1) | exact HB.out)) hb); clear HB; have HB := n0_; clear n0_; (try clear hb); (try clear hb2); (try clear hk); (try clear hi)))
                  go_ret
                  exact ⟨by first | rfl | (simp [errW_none, errW_some] <;> rfl) | (simp [*, errW_none, errW_some] <;> rfl), by repeat (first | (with_reducible first | exact HB.out | apply below_alloc | apply pw_below_drewN | apply below_drew1) | exact HB.out)⟩
          · rw [if_neg c11] at H
            have c11b0 : (t133.toList == ([] : List UInt8)) = false := beq_eq_false_iff_ne.mpr c11
            have c11b1 : (t133.toList != ([] : List UInt8)) = true := bne_iff_ne.mpr c11
            by_cases c53 : t131.size + t132.size ≤ 9223372036854775807
            · rw [if_pos c53] at H
              have c53b0 := eq_true c53
              have c53b1 : decide (t131.size + t132.size ≤ 9223372036854775807) = true := decide_eq_true c53
              try have c53b2 : (9223372036854775807 < t131.size + t132.size) = False := eq_false (Nat.not_lt.2 c53)
              by_cases c54 : ((Op.bytesLess ((t131 ++ t132).toList) t133.toList) = true)
              · rw [if_pos c54] at H
                have c54b0 : (Op.bytesLess ((t131 ++ t132).toList) t133.toList) = true := c54
                clear c54
                by_cases c55 : ((Op.bytesLess t131.toList t133.toList) = true)
                · rw [if_pos c55] at H
                  have c55b0 : (Op.bytesLess t131.toList t133.toList) = true := c55
                  clear c55
                  by_cases c56 : (t132.size : Int) ≥ (t131.size : Int)
                  · rw [if_pos c56] at H
                    have c56b0 : decide ((t131.size : Int) ≤ (t132.size : Int)) = true := decide_eq_true c56
                    have c56b1 : decide (t131.size ≤ t132.size) = true := decide_eq_true (Int.ofNat_le.mp c56)
                    clear c56
                    by_cases c57 : 0 ≤ (t131.size : Int)
                    · rw [if_pos c57] at H
                      have c57b0 := eq_true c57
                      have c57b1 : decide (0 ≤ (t131.size : Int)) = true := decide_eq_true c57
                      clear c57
                      by_cases c58 : (t131.size : Int) ≤ (t132.size : Int)
                      · rw [if_pos c58] at H
                        have c58b0 := eq_true c58
                        have c58b1 : decide ((t131.size : Int) ≤ (t132.size : Int)) = true := decide_eq_true c58
                        clear c58
                        by_cases c59 : ((Op.bytesLess t132.toList t131.toList) = true)
                        · rw [if_pos c59] at H
                          have c59b0 : (Op.bytesLess t132.toList t131.toList) = true := c59
                          clear c59
                          by_cases c60 : (((t132.extract 0 ((t131.size : Int) : Int).toNat).toList == t131.toList) == false) = true
                          · rw [if_pos c60] at H
                            have c60b0 : (((t132.extract 0 ((t131.size : Int) : Int).toNat).toList == t131.toList) == false) = true := c60
                            (try (have c60b8 : ((t132.extract 0 t131.size).toList == t131.toList) = false := by simpa using c60))
                            (try (have c60b1 : decide (((t132.extract 0 ((t131.size : Int) : Int).toNat).toList == t131.toList) = false) = true := by simpa using c60))
                            (try (have c60b2 : (((t132.extract 0 ((t131.size : Int) : Int).toNat).toList == t131.toList) == false) = true := by simpa using c60))
                            clear c60
                            obtain rfl := Option.some.inj H
                            go_wp2_with (first | ((with_reducible refine gate_callee (f := 17) rfl ?_); refine goesL_ (some 18) rfl rfl Try.func17 (by kernel_rfl) rfl #[.slice A0 l0.length c0] rfl (by (try simp only [List.map_toArray, List.map_cons, List.map_nil]); first | done | rfl | (simp only [List.length_drop, List.length_take]; rfl)) ?_; (with_reducible refine (spec_DrawKeyAbove.calls kj2 _ _ l0 t131 _ ?side1 ?side2 A6.out).mono ?_); (case side1 => repeat (first | exact (Kd.C_below HR0.out HB.out) | (with_reducible refine Kd.C_alloc ?_ _) | (with_reducible refine Kd.C_drewN ?_ _) | (with_reducible refine Kd.C_drew ?_))); (case side2 => exact HC0.out); rintro e w61 ⟨rfl, hb⟩; refine ⟨_, rfl, ?_⟩; have n0_ := Aside0.mk (below_step (by repeat (first | (with_reducible first | exact HB.out | apply below_alloc | apply pw_below_drewN | apply below_drew1) | exact HB.out)) hb); clear HB; have HB := n0_; clear n0_; (try clear hb); (try clear hb2); (try clear hk); (try clear hi)) | ((with_reducible refine gate_callee (f := 17) rfl ?_); refine goesL_ (some 20) rfl rfl Try.func17 (by kernel_rfl) rfl #[.slice A1 l1.length c1] rfl (by (try simp only [List.map_toArray, List.map_cons, List.map_nil]); first | done | rfl | (simp only [List.length_drop, List.length_take]; rfl)) ?_; (with_reducible refine (spec_DrawKeyAbove.calls kj2 _ _ l1 t132 _ ?side1 ?side2 A7.out).mono ?_); (case side1 => repeat (first | exact (Kd.C_below HR1.out HB.out) | (with_reducible refine Kd.C_alloc ?_ _) | (with_reducible refine Kd.C_drewN ?_ _) | (with_reducible refine Kd.C_drew ?_))); (case side2 => exact HC1.out); rintro e w62 ⟨rfl, hb⟩; refine ⟨_, rfl, ?_⟩; have n0_ := Aside0.mk (below_step (by repeat (first | (with_reducible first | exact HB.out | apply below_alloc | apply pw_below_drewN | apply below_drew1) | exact HB.out)) hb); clear HB; have HB := n0_; clear n0_; (try clear hb); (try clear hb2); (try clear hk); (try clear hi)) | ((with_reducible refine gate_callee (f := 16) rfl ?_); refine goesL_ (some 22) rfl rfl Try.func16 (by kernel_rfl) rfl #[.string t131] rfl (by (try simp only [List.map_toArray, List.map_cons, List.map_nil]); first | done | rfl | (simp only [List.length_drop, List.length_take]; rfl)) ?_; (with_reducible refine (impl_KeyAbove.calls t131 t133 _ A8.out).mono ?_); rintro e w63 ⟨rfl, hb⟩; refine ⟨_, rfl, ?_⟩; have n0_ := Aside0.mk (below_step (by repeat (first | (with_reducible first | exact HB.out | apply below_alloc | apply pw_below_drewN | apply below_drew1) | exact HB.out)) hb); clear HB; have HB := n0_; clear n0_; (try clear hb); (try clear hb2); (try clear hk); (try clear hi)) | ((with_reducible refine gate_callee (f := 15) rfl ?_); refine goesL_ (some 25) rfl rfl Try.func15 (by kernel_rfl) rfl #[.string t131] rfl (by (try simp only [List.map_toArray, List.map_cons, List.map_nil]); first | done | rfl | (simp only [List.length_drop, List.length_take]; rfl)) ?_; (with_reducible refine (spec_KeyAbove.calls kj2 t131 t134 _ A9.out).mono ?_); rintro e w64 ⟨rfl, hb⟩; refine ⟨_, rfl, ?_⟩; have n0_ := Aside0.mk (below_step (by repeat (first | (with_reducible first | exact HB.out | apply below_alloc | apply pw_below_drewN | apply below_drew1) | exact HB.out)) hb); clear HB; have HB := n0_; clear n0_; (try clear hb); (try clear hb2); (try clear hk); (try clear hi)))
                            go_ret
                            exact ⟨by first | rfl | (simp [errW_none, errW_some] <;> rfl) | (simp [*, errW_none, errW_some] <;> rfl), by repeat (first | (with_reducible first | exact HB.out | apply below_alloc | apply pw_below_drewN | apply below_drew1) | exact HB.out)⟩
                          · rw [if_neg c60] at H
                            have c60b0 : (((t132.extract 0 ((t131.size : Int) : Int).toNat).toList == t131.toList) == false) = false := by simpa using c60
                            (try (have c60b8 : ((t132.extract 0 t131.size).toList == t131.toList) = true := by simpa using c60))
                            (try (have c60b1 : decide (((t132.extract 0 ((t131.size : Int) : Int).toNat).toList == t131.toList) = false) = false := by simpa using c60))
                            (try (have c60b2 : (((t132.extract 0 ((t131.size : Int) : Int).toNat).toList == t131.toList) == false) = false := by simpa using c60))
                            (try (have c60b3 : ¬ (((t132.extract 0 ((t131.size : Int) : Int).toNat).toList == t131.toList) = false) := by simpa using c60))
                            clear c60
                            exact absurd (Option.some.inj H) (by rw [HRT.out]; decide)
                        · rw [if_neg c59] at H
                          have c59b0 : (Op.bytesLess t132.toList t131.toList) = false := by simpa using c59
                          clear c59
                          by_cases c65 : (((t132.extract 0 ((t131.size : Int) : Int).toNat).toList == t131.toList) == (Op.bytesLess t132.toList t133.toList)) = true
                          · rw [if_pos c65] at H
                            have c65b0 : (((t132.extract 0 ((t131.size : Int) : Int).toNat).toList == t131.toList) == (Op.bytesLess t132.toList t133.toList)) = true := c65
                            (try (have c65b8 : ((t132.extract 0 t131.size).toList == t131.toList) = (Op.bytesLess t132.toList t133.toList) := by simpa using c65))
                            (try (have c65b1 : decide (((t132.extract 0 ((t131.size : Int) : Int).toNat).toList == t131.toList) = (Op.bytesLess t132.toList t133.toList)) = true := by simpa using c65))
                            (try (have c65b2 : (((t132.extract 0 ((t131.size : Int) : Int).toNat).toList == t131.toList) == (Op.bytesLess t132.toList t133.toList)) = true := by simpa using c65))
                            clear c65
                            obtain rfl := Option.some.inj H
                            go_wp2_with (first | ((with_reducible refine gate_callee (f := 17) rfl ?_); refine goesL_ (some 18) rfl rfl Try.func17 (by kernel_rfl) rfl #[.slice A0 l0.length c0] rfl (by (try simp only [List.map_toArray, List.map_cons, List.map_nil]); first | done | rfl | (simp only [List.length_drop, List.length_take]; rfl)) ?_; (with_reducible refine (spec_DrawKeyAbove.calls kj2 _ _ l0 t131 _ ?side1 ?side2 A6.out).mono ?_); (case side1 => repeat (first | exact (Kd.C_below HR0.out HB.out) | (with_reducible refine Kd.C_alloc ?_ _) | (with_reducible refine Kd.C_drewN ?_ _) | (with_reducible refine Kd.C_drew ?_))); (case side2 => exact HC0.out); rintro e w66 ⟨rfl, hb⟩; refine ⟨_, rfl, ?_⟩; have n0_ := Aside0.mk (below_step (by repeat (first | (with_reducible first | exact HB.out | apply below_alloc | apply pw_below_drewN | apply below_drew1) | exact HB.out)) hb); clear HB; have HB := n0_; clear n0_; (try clear hb); (try clear hb2); (try clear hk); (try clear hi)) | ((with_reducible refine gate_callee (f := 17) rfl ?_); refine goesL_ (some 20) rfl rfl Try.func17 (by kernel_rfl) rfl #[.slice A1 l1.length c1] rfl (by (try simp only [List.map_toArray, List.map_cons, List.map_nil]); first | done | rfl | (simp only [List.length_drop, List.length_take]; rfl)) ?_; (with_reducible refine (spec_DrawKeyAbove.calls kj2 _ _ l1 t132 _ ?side1 ?side2 A7.out).mono ?_); (case side1 => repeat (first | exact (Kd.C_below HR1.out HB.out) | (with_reducible refine Kd.C_alloc ?_ _) | (with_reducible refine Kd.C_drewN ?_ _) | (with_reducible refine Kd.C_drew ?_))); (case side2 => exact HC1.out); rintro e w67 ⟨rfl, hb⟩; refine ⟨_, rfl, ?_⟩; have n0_ := Aside0.mk (below_step (by repeat (first | (with_reducible first | exact HB.out | apply below_alloc | apply pw_below_drewN | apply below_drew1) | exact HB.out)) hb); clear HB; have HB := n0_; clear n0_; (try clear hb); (try clear hb2); (try clear hk); (try clear hi)) | ((with_reducible refine gate_callee (f := 16) rfl ?_); refine goesL_ (some 22) rfl rfl Try.func16 (by kernel_rfl) rfl #[.string t131] rfl (by (try simp only [List.map_toArray, List.map_cons, List.map_nil]); first | done | rfl | (simp only [List.length_drop, List.length_take]; rfl)) ?_; (with_reducible refine (impl_KeyAbove.calls t131 t133 _ A8.out).mono ?_); rintro e w68 ⟨rfl, hb⟩; refine ⟨_, rfl, ?_⟩; have n0_ := Aside0.mk (below_step (by repeat (first | (with_reducible first | exact HB.out | apply below_alloc | apply pw_below_drewN | apply below_drew1) | exact HB.out)) hb); clear HB; have HB := n0_; clear n0_; (try clear hb); (try clear hb2); (try clear hk); (try clear hi)) | ((with_reducible refine gate_callee (f := 15) rfl ?_); refine goesL_ (some 25) rfl rfl Try.func15 (by kernel_rfl) rfl #[.string t131] rfl (by (try simp only [List.map_toArray, List.map_cons, List.map_nil]); first | done | rfl | (simp only [List.length_drop, List.length_take]; rfl)) ?_; (with_reducible refine (spec_KeyAbove.calls kj2 t131 t134 _ A9.out).mono ?_); rintro e w69 ⟨rfl, hb⟩; refine ⟨_, rfl, ?_⟩; have n0_ := Aside0.mk (below_step (by repeat (first | (with_reducible first | exact HB.out | apply below_alloc | apply pw_below_drewN | apply below_drew1) | exact HB.out)) hb); clear HB; have HB := n0_; clear n0_; (try clear hb); (try clear hb2); (try clear hk); (try clear hi)))
                            go_ret
                            exact ⟨by first | rfl | (simp [errW_none, errW_some] <;> rfl) | (simp [*, errW_none, errW_some] <;> rfl), by repeat (first | (with_reducible first | exact HB.out | apply below_alloc | apply pw_below_drewN | apply below_drew1) | exact HB.out)⟩
                          · rw [if_neg c65] at H
                            have c65b0 : (((t132.extract 0 ((t131.size : Int) : Int).toNat).toList == t131.toList) == (Op.bytesLess t132.toList t133.toList)) = false := by simpa using c65
                            (try (have c65b8 : ((t132.extract 0 t131.size).toList == t131.toList) = (!(Op.bytesLess t132.toList t133.toList)) := by simpa using c65))
                            (try (have c65b1 : decide (((t132.extract 0 ((t131.size : Int) : Int).toNat).toList == t131.toList) = (Op.bytesLess t132.toList t133.toList)) = false := by simpa using c65))
                            (try (have c65b2 : (((t132.extract 0 ((t131.size : Int) : Int).toNat).toList == t131.toList) == (Op.bytesLess t132.toList t133.toList)) = false := by simpa using c65))
                            (try (have c65b3 : ¬ (((t132.extract 0 ((t131.size : Int) : Int).toNat).toList == t131.toList) = (Op.bytesLess t132.toList t133.toList)) := by simpa using c65))
                            clear c65
                            exact absurd (Option.some.inj H) (by rw [HRT.out]; decide)
                      · rw [if_neg c58] at H
                        exact absurd H (by simp)
                    · rw [if_neg c57] at H
                      exact absurd H (by simp)
                  · rw [if_neg c56] at H
                    have c56b0 : decide ((t131.size : Int) ≤ (t132.size : Int)) = false := decide_eq_false c56
                    have c56b1 : decide (t131.size ≤ t132.size) = false := decide_eq_false (fun h => c56 (Int.ofNat_le.mpr h))
                    clear c56
                    by_cases c70 : ((Op.bytesLess t132.toList t131.toList) = true)
                    · rw [if_pos c70] at H
                      have c70b0 : (Op.bytesLess t132.toList t131.toList) = true := c70
                      clear c70
                      by_cases c71 : (false == false) = true
                      · rw [if_pos c71] at H
                        have c71b0 : (false == false) = true := c71
                        clear c71
                        obtain rfl := Option.some.inj H
                        go_wp2_with (first | ((with_reducible refine gate_callee (f := 17) rfl ?_); refine goesL_ (some 18) rfl rfl Try.func17 (by kernel_rfl) rfl #[.slice A0 l0.length c0] rfl (by (try simp only [List.map_toArray, List.map_cons, List.map_nil]); first | done | rfl | (simp only [List.length_drop, List.length_take]; rfl)) ?_; (with_reducible refine (spec_DrawKeyAbove.calls kj2 _ _ l0 t131 _ ?side1 ?side2 A6.out).mono ?_); (case side1 => repeat (first | exact (Kd.C_below HR0.out HB.out) | (with_reducible refine Kd.C_alloc ?_ _) | (with_reducible refine Kd.C_drewN ?_ _) | (with_reducible refine Kd.C_drew ?_))); (case side2 => exact HC0.out); rintro e w72 ⟨rfl, hb⟩; refine ⟨_, rfl, ?_⟩; have n0_ := Aside0.mk (below_step (by repeat (first | (with_reducible first | exact HB.out | apply below_alloc | apply pw_below_drewN | apply below_drew1) | exact HB.out)) hb); clear HB; have HB := n0_; clear n0_; (try clear hb); (try clear hb2); (try clear hk); (try clear hi)) | ((with_reducible refine gate_callee (f := 17) rfl ?_); refine goesL_ (some 20) rfl rfl Try.func17 (by kernel_rfl) rfl #[.slice A1 l1.length c1] rfl (by (try simp only [List.map_toArray, List.map_cons, List.map_nil]); first | done | rfl | (simp only [List.length_drop, List.length_take]; rfl)) ?_; (with_reducible refine (spec_DrawKeyAbove.calls kj2 _ _ l1 t132 _ ?side1 ?side2 A7.out).mono ?_); (case side1 => repeat (first | exact (Kd.C_below HR1.out HB.out) | (with_reducible refine Kd.C_alloc ?_ _) | (with_reducible refine Kd.C_drewN ?_ _) | (with_reducible refine Kd.C_drew ?_))); (case side2 => exact HC1.out); rintro e w73 ⟨rfl, hb⟩; refine ⟨_, rfl, ?_⟩; have n0_ := Aside0.mk (below_step (by repeat (first | (with_reducible first | exact HB.out | apply below_alloc | apply pw_below_drewN | apply below_drew1) | exact HB.out)) hb); clear HB; have HB := n0_; clear n0_; (try clear hb); (try clear hb2); (try clear hk); (try clear hi)) | ((with_reducible refine gate_callee (f := 16) rfl ?_); refine goesL_ (some 22) rfl rfl Try.func16 (by kernel_rfl) rfl #[.string t131] rfl (by (try simp only [List.map_toArray, List.map_cons, List.map_nil]); first | done | rfl | (simp only [List.length_drop, List.length_take]; rfl)) ?_; (with_reducible refine (impl_KeyAbove.calls t131 t133 _ A8.out).mono ?_); rintro e w74 ⟨rfl, hb⟩; refine ⟨_, rfl, ?_⟩; have n0_ := Aside0.mk (below_step (by repeat (first | (with_reducible first | exact HB.out | apply below_alloc | apply pw_below_drewN | apply below_drew1) | exact HB.out)) hb); clear HB; have HB := n0_; clear n0_; (try clear hb); (try clear hb2); (try clear hk); (try clear hi)) | ((with_reducible refine gate_callee (f := 15) rfl ?_); refine goesL_ (some 25) rfl rfl Try.func15 (by kernel_rfl) rfl #[.string t131] rfl (by (try simp only [List.map_toArray, List.map_cons, List.map_nil]); first | done | rfl | (simp only [List.length_drop, List.length_take]; rfl)) ?_; (with_reducible refine (spec_KeyAbove.calls kj2 t131 t134 _ A9.out).mono ?_); rintro e w75 ⟨rfl, hb⟩; refine ⟨_, rfl, ?_⟩; have n0_ := Aside0.mk (below_step (by repeat (first | (with_reducible first | exact HB.out | apply below_alloc | apply pw_below_drewN | apply below_drew1) | exact HB.out)) hb); clear HB; have HB := n0_; clear n0_; (try clear hb); (try clear hb2); (try clear hk); (try clear hi)))
                        go_ret
                        exact ⟨by first | rfl | (simp [errW_none, errW_some] <;> rfl) | (simp [*, errW_none, errW_some] <;> rfl), by repeat (first | (with_reducible first | exact HB.out | apply below_alloc | apply pw_below_drewN | apply below_drew1) | exact HB.out)⟩
                      · exact absurd rfl c71
                    · rw [if_neg c70] at H
                      have c70b0 : (Op.bytesLess t132.toList t131.toList) = false := by simpa using c70
                      clear c70
                      by_cases c76 : (false == (Op.bytesLess t132.toList t133.toList)) = true
                      · rw [if_pos c76] at H
                        have c76b0 : (false == (Op.bytesLess t132.toList t133.toList)) = true := c76
                        (try (have c76b1 : decide (false = (Op.bytesLess t132.toList t133.toList)) = true := by simpa using c76))
                        (try (have c76b2 : (false == (Op.bytesLess t132.toList t133.toList)) = true := by simpa using c76))
                        clear c76
                        obtain rfl := Option.some.inj H
                        go_wp2_with (first | ((with_reducible refine gate_callee (f := 17) rfl ?_); refine goesL_ (some 18) rfl rfl Try.func17 (by kernel_rfl) rfl #[.slice A0 l0.length c0] rfl (by (try simp only [List.map_toArray, List.map_cons, List.map_nil]); first | done | rfl | (simp only [List.length_drop, List.length_take]; rfl)) ?_; (with_reducible refine (spec_DrawKeyAbove.calls kj2 _ _ l0 t131 _ ?side1 ?side2 A6.out).mono ?_); (case side1 => repeat (first | exact (Kd.C_below HR0.out HB.out) | (with_reducible refine Kd.C_alloc ?_ _) | (with_reducible refine Kd.C_drewN ?_ _) | (with_reducible refine Kd.C_drew ?_))); (case side2 => exact HC0.out); rintro e w77 ⟨rfl, hb⟩; refine ⟨_, rfl, ?_⟩; have n0_ := Aside0.mk (below_step (by repeat (first | (with_reducible first | exact HB.out | apply below_alloc | apply pw_below_drewN | apply below_drew1) | exact HB.out)) hb); clear HB; have HB := n0_; clear n0_; (try clear hb); (try clear hb2); (try clear hk); (try clear hi)) | ((with_reducible refine gate_callee (f := 17) rfl ?_); refine goesL_ (some 20) rfl rfl Try.func17 (by kernel_rfl) rfl #[.slice A1 l1.length c1] rfl (by (try simp only [List.map_toArray, List.map_cons, List.map_nil]); first | done | rfl | (simp only [List.length_drop, List.length_take]; rfl)) ?_; (with_reducible refine (spec_DrawKeyAbove.calls kj2 _ _ l1 t132 _ ?side1 ?side2 A7.out).mono ?_); (case side1 => repeat (first | exact (Kd.C_below HR1.out HB.out) | (with_reducible refine Kd.C_alloc ?_ _) | (with_reducible refine Kd.C_drewN ?_ _) | (with_reducible refine Kd.C_drew ?_))); (case side2 => exact HC1.out); rintro e w78 ⟨rfl, hb⟩; refine ⟨_, rfl, ?_⟩; have n0_ := Aside0.mk (below_step (by repeat (first | (with_reducible first | exact HB.out | apply below_alloc | apply pw_below_drewN | apply below_drew1) | exact HB.out)) hb); clear HB; have HB := n0_; clear n0_; (try clear hb); (try clear hb2); (try clear hk); (try clear hi)) | ((with_reducible refine gate_callee (f := 16) rfl ?_); refine goesL_ (some 22) rfl rfl Try.func16 (by kernel_rfl) rfl #[.string t131] rfl (by (try simp only [List.map_toArray, List.map_cons, List.map_nil]); first | done | rfl | (simp only [List.length_drop, List.length_take]; rfl)) ?_; (with_reducible refine (impl_KeyAbove.calls t131 t133 _ A8.out).mono ?_); rintro e w79 ⟨rfl, hb⟩; refine ⟨_, rfl, ?_⟩; have n0_ := Aside0.mk (below_step (by repeat (first | (with_reducible first | exact HB.out | apply below_alloc | apply pw_below_drewN | apply below_drew1) | exact HB.out)) hb); clear HB; have HB := n0_; clear n0_; (try clear hb); (try clear hb2); (try clear hk); (try clear hi)) | ((with_reducible refine gate_callee (f := 15) rfl ?_); refine goesL_ (some 25) rfl rfl Try.func15 (by kernel_rfl) rfl #[.string t131] rfl (by (try simp only [List.map_toArray, List.map_cons, List.map_nil]); first | done | rfl | (simp only [List.length_drop, List.length_take]; rfl)) ?_; (with_reducible refine (spec_KeyAbove.calls kj2 t131 t134 _ A9.out).mono ?_); rintro e w80 ⟨rfl, hb⟩; refine ⟨_, rfl, ?_⟩; have n0_ := Aside0.mk (below_step (by repeat (first | (with_reducible first | exact HB.out | apply below_alloc | apply pw_below_drewN | apply below_drew1) | exact HB.out)) hb); clear HB; have HB := n0_; clear n0_; (try clear hb); (try clear hb2); (try clear hk); (try clear hi)))
                        go_ret
                        exact ⟨by first | rfl | (simp [errW_none, errW_some] <;> rfl) | (simp [*, errW_none, errW_some] <;> rfl), by repeat (first | (with_reducible first | exact HB.out | apply below_alloc | apply pw_below_drewN | apply below_drew1) | exact HB.out)⟩
                      · rw [if_neg c76] at H
                        have c76b0 : (false == (Op.bytesLess t132.toList t133.toList)) = false := by simpa using c76
                        (try (have c76b1 : decide (false = (Op.bytesLess t132.toList t133.toList)) = false := by simpa using c76))
                        (try (have c76b2 : (false == (Op.bytesLess t132.toList t133.toList)) = false := by simpa using c76))
                        (try (have c76b3 : ¬ (false = (Op.bytesLess t132.toList t133.toList)) := by simpa using c76))
                        clear c76
                        exact absurd (Option.some.inj H) (by rw [HRT.out]; decide)
                · rw [if_neg c55] at H
                  have c55b0 : (Op.bytesLess t131.toList t133.toList) = false := by simpa using c55
                  clear c55
                  exact absurd (Option.some.inj H) (by rw [HRT.out]; decide)
              · rw [if_neg c54] at H
                have c54b0 : (Op.bytesLess ((t131 ++ t132).toList) t133.toList) = false := by simpa using c54
                clear c54
                exact absurd (Option.some.inj H) (by rw [HRT.out]; decide)
            · rw [if_neg c53] at H
              exact absurd H (by simp)
        · rw [if_neg c10] at H
          have c10b0 : (t133.toList == t134.toList) = false := beq_eq_false_iff_ne.mpr c10
          have c10b1 : (t133.toList != t134.toList) = true := bne_iff_ne.mpr c10
          exact absurd (Option.some.inj H) (by rw [HRT.out]; decide)

end Go.Proofs.Ytldjfonpegffiaa.Q
