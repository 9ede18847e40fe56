/- That the law FnExactTreeDeep answers true for every input, and leaves its input as it was, is proved. -/
import Derived.Test.YtldjfonpegffiaaCFnExactTreeDeepx2
import Derived.Test.YtldjfonpegffiaaRows
import Derived.WalkKit
import Derived.ProofKit
import Derived.OpenShut
import Derived.ShutString
import Derived.ChangeOld
import Derived.Below
import Derived.SizedLaws
import Derived.Carry
set_option autoImplicit false
/-! Rf: the row of a law, out of its pure statement. -/
namespace Go.Proofs.Ytldjfonpegffiaa.fnExactTreeDeep
open Go.Rf Go.Proofs.Ytldjfonpegffiaa.R Go.ChangeShapes Go.WideShapes Go.ChangeAt Go.RowKit
set_option linter.unusedVariables false
theorem walk (P : PureFnExactTreeDeep) (w : World) (v0 : Value) (y0 : (vSh ⟨true, [.int .i64, .sl (.pair .bool (.pair (.sl .str) (.pair (.sl .str) (.pair (.sl (.int .i64)) .unit))))], [(0, 1, false), (1, 1, false)], 32⟩).D) (h0 : ShRep w (Here w) (vSh ⟨true, [.int .i64, .sl (.pair .bool (.pair (.sl .str) (.pair (.sl .str) (.pair (.sl (.int .i64)) .unit))))], [(0, 1, false), (1, 1, false)], 32⟩) y0 v0 []) (w0 : shWf (vSh ⟨true, [.int .i64, .sl (.pair .bool (.pair (.sl .str) (.pair (.sl .str) (.pair (.sl (.int .i64)) .unit))))], [(0, 1, false), (1, 1, false)], 32⟩) y0) :
    Calls Try.prog 12 #[v0] w fun e w' => e = .returned (.bool true) ∧ Below w.heap.size w w' := by
  obtain ⟨k, p, h⟩ := P y0.1 y0.2.1 w0.1 w0.2.1
  have h' : callF cx k 12 (y0, ()) = some ((true, ()), p) := h
  have hr : ShsRep w (Here w) (cx.spec 12).ps (y0, ()) [v0] [] := ⟨[], [], rfl, h0, rfl⟩
  exact law_calls (told k 12 _ _ h') hr (fun _ _ h => by cases h) (fun w' Z vs fp h => res_bool h)
theorem own : ownKnob Try.prog.godebug = none := by kernel_rfl
theorem laidOut : laidOutB Try.prog = true := by kernel_rfl
set_option maxRecDepth 100000 in
theorem lifted (P : PureFnExactTreeDeep) (os : Os) (started : os.Started) (H : Type) (enc : TypeId × Value → H) :
    ReturnsInHanded {} Try.checked os 12 .any (Rows.fnExactTreeDeepSpec.pre6 enc Try.prog Try.f12 Rows.fnExactTreeDeepRow.domain false) (Rows.fnExactTreeDeepSpec.post enc Try.prog Try.f12 false true false false) := by
  refine returnsInHanded_of_change_sized (C := Try.checked) own started (by kernel_rfl) Try.func12
    (ChangeSpec.witness6 (enc := enc) (C := Try.checked) false ⟨#[], #[.agg #[.int .i64 0, .slice none 0 0]], []⟩ 12 (by kernel_rfl) (by kernel_rfl) (by kernel_rfl) (by kernel_rfl)) ?_
  intro W base args ds gs before hval0 hW hcnd hsz0 _
  have hval : ∀ (j : Nat) t v, Try.f12.params[j]? = some t → args[j]? = some v → Value.okWide Try.prog W .any base t v := hval0
  have hW' := hW
  obtain ⟨p, q, hA0, hV, rfl, hfz, hnd⟩ := hW
  have hA : DataW.TrodAll enc Try.prog W 0 (fun _ => true) true Try.f12.params.toList args.toList ds p := hA0
  rw [Try.params12] at hA hval
  obtain ⟨v0, vs0, d0, ds0, p0, q0, hargs, rfl, rfl, h0, r0⟩ := trodAll_cons hA
  obtain ⟨rfl, rfl, rfl⟩ := trodAll_nil r0
  obtain rfl : args = #[v0] := by cases args; simp_all
  obtain ⟨rfl, rfl⟩ := trodVars_none hV
  have k0 := h0
  have lt0 : ∀ x ∈ p0, x.block < W.heap.size := by obtain ⟨m, hm⟩ := k0; exact DataW.trod_lt m _ _ _ hm
  obtain ⟨y0, hy0, w0⟩ := opnArg_ok (tab := tabs.ty) (P := Try.prog) (t := 59) (i := ⟨true, [.int .i64, .sl (.pair .bool (.pair (.sl .str) (.pair (.sl .str) (.pair (.sl (.int .i64)) .unit))))], [(0, 1, false), (1, 1, false)], 32⟩) (by kernel_rfl) (hval 0 59 v0 rfl rfl) h0
  clear hA0 hval0 hsz0
  refine (walk P W v0 y0 hy0 w0).mono fun e W' ⟨he, bel⟩ => ?_
  subst he
  exact ⟨_, rfl, _, _, _, [], _, [], hW', trodAll_mk1 (shut_bool Try.underlying4 _), (trodAll_cons_mk (Below.trod laidOut (by kernel_rfl) (of_decide_eq_true (by kernel_rfl)) k0 bel lt0) trodAll_mk0), rfl, bel.frame _, fun h => by cases h⟩
theorem over (P : PureFnExactTreeDeep) : Rows.fnExactTreeDeepRow.holds Try.pinned (OpenSpec.ofChange Rows.fnExactTreeDeepSpec) :=
  OpenClaim.holds_of_wide 12 Try.f12 rfl rfl rfl rfl rfl rfl rfl ⟨rfl, rfl, rfl, rfl, rfl⟩ rfl rfl rfl rfl rfl (by kernel_rfl) Try.func12 (by kernel_rfl)
    (of_decide_eq_true (by kernel_rfl)) (by unfold Func.isWrapper; first | (rw [if_pos (by decide +kernel)]; kernel_rfl) | (rw [if_neg (by decide +kernel)]; exact ⟨rfl, rfl⟩))
    (fun os started H enc _ => lifted P os started H enc)
end Go.Proofs.Ytldjfonpegffiaa.fnExactTreeDeep
/-! Rf: the law FnExactTreeDeep, with no machine in sight. -/
namespace Go.Proofs.Ytldjfonpegffiaa.R
open Go.Rf
theorem FnExactTreeDeep : PureFnExactTreeDeep := by
  intro t l _ hl
  obtain ⟨hlen, hfit⟩ := fits_of hl
  obtain ⟨r, h1, h2⟩ := F38_ev t l hlen hfit
  rcases h2 with h2 | ⟨h2, h3, h4⟩
  · obtain ⟨k, hk⟩ := Ev.get (g := fun k => F12 k t l) (r := ((true, ()), (((), (), ()), ()))) (Ev.step 2 (fun k => F12_eq k t l) (Ev.bind h1 (by
      simp only [h2, decide_true, if_true]
      exact Ev.now _)))
    exact ⟨k, _, hk⟩
  · have hneg : decide (r.1.1 < 0) = false := by simp; omega
    obtain ⟨v, v1, v2, v3⟩ := deep_ev t l h4
    have h40 := F40_ev t l h3 h4
    have h42 : Ev (fun k => F42 k t l) ((if v < 0 then 0 else v, ()), (((), (), ()), ())) := by
      refine Ev.step 2 (fun k => F42_eq k t l) (Ev.bind v2 ?_)
      rcases v1 with rfl | v1
      · exact Ev.now _
      · have h5 : decide (v < 0) = false := by simp; omega
        have h6 : ¬ v < 0 := by omega
        simp only [h5, h6, Bool.false_eq_true, if_false]
        exact Ev.now _
    obtain ⟨k, hk⟩ := Ev.get (g := fun k => F12 k t l) (r := ((true, ()), (((), (), ()), ()))) (Ev.step 2 (fun k => F12_eq k t l) (Ev.bind h1 (by
      simp only [hneg, Bool.false_eq_true, if_false]
      refine Ev.bind h40 (Ev.bind h42 (Ev.bind h40 (Ev.bind (Ev.step 2 (fun k => F43_eq k t l) (Ev.bind v3 (Ev.now _))) ?_)))
      simp only [bne_self_eq_false, Bool.false_eq_true, if_false]
      refine Ev.bind h40 (Ev.bind (F25_ev t l h3 h4) ?_)
      simp only [Bool.not_true, Bool.false_eq_true, if_false]
      exact Ev.now _)))
    exact ⟨k, _, hk⟩
end Go.Proofs.Ytldjfonpegffiaa.R
/-- The row, under a short name, for the claim. -/
theorem Go.Proofs.Ytldjfonpegffiaa.fnExactTreeDeep_holds : Go.Proofs.Ytldjfonpegffiaa.Rows.FnExactTreeDeepSaid := Go.Proofs.Ytldjfonpegffiaa.fnExactTreeDeep.over Go.Proofs.Ytldjfonpegffiaa.R.FnExactTreeDeep
