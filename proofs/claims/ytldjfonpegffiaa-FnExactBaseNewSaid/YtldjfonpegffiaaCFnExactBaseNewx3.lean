/- That the law FnExactBaseNew answers true for every input, and leaves its input as it was, is proved. -/
import Derived.Test.YtldjfonpegffiaaCFnExactBaseNewx2
import Derived.Test.YtldjfonpegffiaaRows
import Derived.WalkKit
import Derived.ProofKit
import Derived.OpenShut
import Derived.ShutString
import Derived.ChangeOld
import Derived.Below
import Derived.SizedLaws
import Derived.Carry
set_option autoImplicit false
/-! Rf: the row of a law, out of its pure statement. -/
namespace Go.Proofs.Ytldjfonpegffiaa.fnExactBaseNew
open Go.Rf Go.Proofs.Ytldjfonpegffiaa.R Go.ChangeShapes Go.WideShapes Go.ChangeAt Go.RowKit
set_option linter.unusedVariables false
theorem walk (P : PureFnExactBaseNew) (w : World)   :
    Calls Try.prog 13 #[] w fun e w' => e = .returned (.bool true) ∧ Below w.heap.size w w' := by
  obtain ⟨k, p, h⟩ := P 
  have h' : callF cx k 13 () = some ((true, ()), p) := h
  have hr : ShsRep w (Here w) (cx.spec 13).ps () [] [] := rfl
  exact law_calls (told k 13 _ _ h') hr ⟨(fun _ _ h => by cases h), (fun _ _ h => by cases h)⟩ (fun w' Z vs fp h => res_bool h)
theorem own : ownKnob Try.prog.godebug = none := by kernel_rfl
theorem laidOut : laidOutB Try.prog = true := by kernel_rfl
set_option maxRecDepth 100000 in
theorem lifted (P : PureFnExactBaseNew) (os : Os) (started : os.Started) (H : Type) (enc : TypeId × Value → H) :
    ReturnsInHanded {} Try.checked os 13 .any (Rows.fnExactBaseNewSpec.pre6 enc Try.prog Try.f13 Rows.fnExactBaseNewRow.domain false) (Rows.fnExactBaseNewSpec.post enc Try.prog Try.f13 false true false false) := by
  refine returnsInHanded_of_change_sized (C := Try.checked) own started (by kernel_rfl) Try.func13
    (ChangeSpec.witness6 (enc := enc) (C := Try.checked) false ⟨#[], #[], []⟩ 12 (by kernel_rfl) (by kernel_rfl) (by kernel_rfl) (by kernel_rfl)) ?_
  intro W base args ds gs before hval0 hW hcnd hsz0 _
  have hval : ∀ (j : Nat) t v, Try.f13.params[j]? = some t → args[j]? = some v → Value.okWide Try.prog W .any base t v := hval0
  have hW' := hW
  obtain ⟨p, q, hA0, hV, rfl, hfz, hnd⟩ := hW
  have hA : DataW.TrodAll enc Try.prog W 0 (fun _ => true) true Try.f13.params.toList args.toList ds p := hA0
  rw [Try.params13] at hA
  obtain ⟨hargs, rfl, rfl⟩ := trodAll_nil hA
  obtain rfl : args = #[] := by cases args; simp_all
  obtain ⟨rfl, rfl⟩ := trodVars_none hV
  clear hA0 hval0 hsz0
  clear hval
  refine (walk P W  ).mono fun e W' ⟨he, bel⟩ => ?_
  subst he
  exact ⟨_, rfl, _, _, _, [], _, [], hW', trodAll_mk1 (shut_bool Try.underlying4 _), trodAll_mk0, rfl, bel.frame _, fun h => by cases h⟩
theorem over (P : PureFnExactBaseNew) : Rows.fnExactBaseNewRow.holds Try.pinned (OpenSpec.ofChange Rows.fnExactBaseNewSpec) :=
  OpenClaim.holds_of_wide 13 Try.f13 rfl rfl rfl rfl rfl rfl rfl ⟨rfl, rfl, rfl, rfl, rfl⟩ rfl rfl rfl rfl rfl (by kernel_rfl) Try.func13 (by kernel_rfl)
    (of_decide_eq_true (by kernel_rfl)) (by unfold Func.isWrapper; first | (rw [if_pos (by decide +kernel)]; kernel_rfl) | (rw [if_neg (by decide +kernel)]; exact ⟨rfl, rfl⟩))
    (fun os started H enc _ => lifted P os started H enc)
end Go.Proofs.Ytldjfonpegffiaa.fnExactBaseNew
/-! Rf: the law FnExactBaseNew, with no machine in sight: it takes nothing, so it is run. -/
namespace Go.Proofs.Ytldjfonpegffiaa.R
open Go.Rf
theorem FnExactBaseNew : PureFnExactBaseNew := ⟨200, (), by kernel_rfl⟩
end Go.Proofs.Ytldjfonpegffiaa.R
/-- The row, under a short name, for the claim. -/
theorem Go.Proofs.Ytldjfonpegffiaa.fnExactBaseNew_holds : Go.Proofs.Ytldjfonpegffiaa.Rows.FnExactBaseNewSaid := Go.Proofs.Ytldjfonpegffiaa.fnExactBaseNew.over Go.Proofs.Ytldjfonpegffiaa.R.FnExactBaseNew
