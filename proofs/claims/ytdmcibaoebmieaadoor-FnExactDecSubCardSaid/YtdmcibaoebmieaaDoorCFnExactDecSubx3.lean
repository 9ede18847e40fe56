/- That the law FnExactDecSub answers true for every input, and leaves its input as it was, is proved. -/
import Derived.Test.YtdmcibaoebmieaaDoorCFnExactDecSubx2
import Derived.Test.YtdmcibaoebmieaaDoorRows
import Derived.WalkKit
import Derived.ProofKit
import Derived.OpenShut
import Derived.ShutString
import Derived.ChangeOld
import Derived.Below
import Derived.SizedLaws
import Derived.Carry
import Derived.Test.YtdmcibaoebmieaaDoorCards
import Derived.Test.YtdmcibaoebmieaaDoorTie
import Derived.LaidMore
import Derived.Stop.Joined
import Derived.Stop.LaidErr
import Derived.SevenTiedAt
import Derived.Lib.LaidTab
set_option autoImplicit false
/-! Rf: the row of a law, out of its pure statement. -/
namespace Go.Proofs.YtdmcibaoebmieaaDoor.fnExactDecSub
open Go.Rf Go.Proofs.YtdmcibaoebmieaaDoor.R Go.ChangeShapes Go.WideShapes Go.ChangeAt Go.RowKit
set_option linter.unusedVariables false
theorem walk (P : PureFnExactDecSub) (w : World) (hGL : GL cx w (Here w)) (v0 : Value) (y0 : (vSh ⟨true, [.bool, .sl (.int .i64), .int .i64], [(0, 2, true), (2, 1, false)], 40⟩).D) (v1 : Value) (y1 : (vSh ⟨true, [.bool, .sl (.int .i64), .int .i64], [(0, 2, true), (2, 1, false)], 40⟩).D) (h0 : ShRep w (Here w) (vSh ⟨true, [.bool, .sl (.int .i64), .int .i64], [(0, 2, true), (2, 1, false)], 40⟩) y0 v0 []) (w0 : shWf (vSh ⟨true, [.bool, .sl (.int .i64), .int .i64], [(0, 2, true), (2, 1, false)], 40⟩) y0) (h1 : ShRep w (Here w) (vSh ⟨true, [.bool, .sl (.int .i64), .int .i64], [(0, 2, true), (2, 1, false)], 40⟩) y1 v1 []) (w1 : shWf (vSh ⟨true, [.bool, .sl (.int .i64), .int .i64], [(0, 2, true), (2, 1, false)], 40⟩) y1) :
    Calls Tryd.prog 6 #[v0, v1] w fun e w' => e = .returned (.bool true) ∧ Below w.heap.size w w' := by
  obtain ⟨k, p, h⟩ := P y0.1 y0.2.1 y0.2.2.1 y1.1 y1.2.1 y1.2.2.1 w0.1 w0.2.1 w0.2.2.1 w1.1 w1.2.1 w1.2.2.1
  have h' : callF cx k 6 (y0, y1, ()) = some ((true, ()), p) := h
  have hr : ShsRep w (Here w) (cx.spec 6).ps (y0, y1, ()) [v0, v1] [] := ⟨[], [], rfl, h0, ⟨[], [], rfl, h1, rfl⟩⟩
  exact law_calls (told k 6 _ _ h') hr hGL (fun w' Z vs fp h => res_bool h)
theorem own : ownKnob Tryd.prog.godebug = none := by kernel_rfl
theorem laidOut : laidOutB Tryd.prog = true := by kernel_rfl
/-- what the row lists -/
def laidL : List (String × DataW Unit) := [("math/bits.deBruijn32tab", Rows.laid_math_bits_deBruijn32tab), ("math/bits.deBruijn64tab", Rows.laid_math_bits_deBruijn64tab), ("internal/strconv.uint64pow10", Rows.laid_internal_strconv_uint64pow10)]
theorem pow_data : (Rows.laid_internal_strconv_uint64pow10 : DataW Unit) = Lib.tabData .u64 Lib.pow10Tab := by kernel_rfl
theorem gl_of {W : World} (h : laidMetH Tryd.prog laidL W) : GL cx W (Here W) := by
  unfold laidL at h
  rw [MakeChecks.laidMetH_plain _ _ _ (by kernel_rfl), pow_data] at h
  have ht := Lib.tabIs_of_head (n := 20) (t := 161) (e := 97) gPow (by kernel_rfl) (by kernel_rfl) (by kernel_rfl) (by kernel_rfl) (by kernel_rfl) (laidMet.tail (laidMet.tail h))
  unfold Lib.TabIs World.var? at ht
  rw [gPow, Option.bind_some] at ht
  refine ⟨(fun _ _ h => by cases h), fun g cs hg => ?_⟩
  have hg : objsR g = some cs := hg
  unfold objsR at hg
  split at hg
  · rename_i e
    subst e
    obtain rfl := Option.some.inj hg
    split at ht
    · rename_i cs t fz hh
      obtain rfl := Option.some.inj ht
      exact ⟨(Array.getElem?_eq_some_iff.1 hh).1, _, _, hh⟩
    · cases ht
  · cases hg
theorem door_met (os : Os) (args : Array Value) : laidMetH Tryd.prog laidL ((World.doorLaid Tryd.prog 400 os).forCall (fun _ _ => 0) ⟨#[], args, []⟩).memory :=
  laidMetH_of_parts3 (fuel := 8) (laidMet_of_run' 8 (by kernel_rfl) (by kernel_rfl)) (by kernel_rfl) (by kernel_rfl)
set_option maxRecDepth 100000 in
theorem lifted (P : PureFnExactDecSub) (os : Os) (started : os.Started) (H : Type) (enc : TypeId × Value → H) :
    ReturnsInHanded {} Tryd.checked os 6 .any (fun w args => (Rows.fnExactDecSubSpec.pre enc Tryd.prog Tryd.f6 [] false w args ∧ laidMetH Tryd.prog laidL w) ∧ sizedMet enc Tryd.prog Tryd.f6 (OpenSpec.ofChange Rows.fnExactDecSubSpec) false w args)
      (Rows.fnExactDecSubSpec.post enc Tryd.prog Tryd.f6 false true false false) := by
  refine returnsInHanded_of_change_and (C := Tryd.checked) (X := fun w _ => laidMetH Tryd.prog laidL w) (fun _ _ _ hh h => h.of_heap hh) own started (by kernel_rfl) Tryd.func6
    (ChangeSpec.witness_shaped (enc := enc) (C := Tryd.checked) (os := os) (X := fun w _ => laidMetH Tryd.prog laidL w) false (World.doorLaid Tryd.prog 400 os) #[.agg #[.bool false, .slice none 0 0, .int .i64 0], .agg #[.bool false, .slice none 0 0, .int .i64 0]] 12 rfl (World.shaped_of_RefB (by kernel_rfl) (by kernel_rfl)) (by kernel_rfl) (by kernel_rfl) (by kernel_rfl) (door_met os _)) ?_
  intro W base args ds gs before hval0 hW _ _ hL _
  have hGL := gl_of hL
  have hval : ∀ (j : Nat) t v, Tryd.f6.params[j]? = some t → args[j]? = some v → Value.okWide Tryd.prog W .any base t v := hval0
  have hW' := hW
  obtain ⟨p, q, hA0, hV, rfl, hfz, hnd⟩ := hW
  have hA : DataW.TrodAll enc Tryd.prog W 0 (fun _ => true) true Tryd.f6.params.toList args.toList ds p := hA0
  rw [Tryd.params6] at hA hval
  obtain ⟨v0, vs0, d0, ds0, p0, q0, hargs, rfl, rfl, h0, r0⟩ := trodAll_cons hA
  obtain ⟨v1, vs1, d1, ds1, p1, q1, rfl, rfl, rfl, h1, r1⟩ := trodAll_cons r0
  obtain ⟨rfl, rfl, rfl⟩ := trodAll_nil r1
  obtain rfl : args = #[v0, v1] := by cases args; simp_all
  obtain ⟨rfl, rfl⟩ := trodVars_none hV
  have k0 := h0
  have lt0 : ∀ x ∈ p0, x.block < W.heap.size := by obtain ⟨m, hm⟩ := k0; exact DataW.trod_lt m _ _ _ hm
  obtain ⟨y0, hy0, w0⟩ := opnArg_ok (tab := tabs.ty) (P := Tryd.prog) (t := 26) (i := ⟨true, [.bool, .sl (.int .i64), .int .i64], [(0, 2, true), (2, 1, false)], 40⟩) (by kernel_rfl) (hval 0 26 v0 rfl rfl) h0
  have k1 := h1
  have lt1 : ∀ x ∈ p1, x.block < W.heap.size := by obtain ⟨m, hm⟩ := k1; exact DataW.trod_lt m _ _ _ hm
  obtain ⟨y1, hy1, w1⟩ := opnArg_ok (tab := tabs.ty) (P := Tryd.prog) (t := 26) (i := ⟨true, [.bool, .sl (.int .i64), .int .i64], [(0, 2, true), (2, 1, false)], 40⟩) (by kernel_rfl) (hval 1 26 v1 rfl rfl) h1
  clear hA0 hval0
  refine (walk P W hGL v0 y0 v1 y1 hy0 w0 hy1 w1).mono fun e W' ⟨he, bel⟩ => ?_
  subst he
  exact ⟨_, rfl, _, _, _, [], _, [], hW', trodAll_mk1 (shut_bool Tryd.underlying4 _), (trodAll_cons_mk (Below.trod laidOut (by kernel_rfl) (of_decide_eq_true (by kernel_rfl)) k0 bel lt0) (trodAll_cons_mk (Below.trod laidOut (by kernel_rfl) (of_decide_eq_true (by kernel_rfl)) k1 bel lt1) trodAll_mk0)), rfl, bel.frame _, fun h => by cases h⟩
theorem over (P : PureFnExactDecSub) : Rows.fnExactDecSubRow.holds Tryd.pinned (OpenSpec.ofChange Rows.fnExactDecSubSpec) :=
  OpenClaim.holds_of_wide 6 Tryd.f6 rfl rfl rfl rfl rfl rfl rfl ⟨rfl, rfl, rfl, rfl, rfl⟩ rfl rfl rfl rfl rfl (by kernel_rfl) Tryd.func6 (by kernel_rfl)
    (of_decide_eq_true (by kernel_rfl)) (by unfold Func.isWrapper; first | (rw [if_pos (by decide +kernel)]; kernel_rfl) | (rw [if_neg (by decide +kernel)]; exact ⟨rfl, rfl⟩))
    (fun os started H enc _ => lifted P os started H enc)
/-- THE TIED CARD. -/
theorem card (P : PureFnExactDecSub) : Rows.FnExactDecSubCardSaid :=
  Claim7.holds_tied_plain_at .later [] [.data, .data, .data] true (true, "83779ebe4ba9288bf0b1a363fd0bfe5bbb4f91d29c9dcf957be770e670791298") true
    (over P) (fun _ h => by cases h) (by kernel_rfl) (fun _ h => by cases h) fnExactDecSub_row_tie rfl ⟨rfl, rfl⟩ (by kernel_rfl) rfl
    (fun f fn hf hfn => by
      obtain rfl : f = 6 := Option.some.inj ((show Tryd.prog.funcNamed "loop.example/jetton/laws.FnExactDecSub" = some 6 by kernel_rfl).symm.trans hf) |>.symm
      obtain rfl : fn = Tryd.f6 := (Option.some.inj (Tryd.func6.symm.trans hfn)).symm
      exact ⟨by kernel_rfl, fun j t ht => by
        rw [Tryd.params6] at ht
        have hm : t ∈ [26, 26] := by simpa using Array.mem_of_getElem? ht
        have hall : ([26, 26].all fun u => !Tryd.prog.wantsStandIn u) = true := by kernel_rfl
        exact (show Tryd.prog.wantsStandIn t = false by simpa using List.all_eq_true.1 hall t hm)⟩)
    (by kernel_rfl)
end Go.Proofs.YtdmcibaoebmieaaDoor.fnExactDecSub
/-! Rf: the law FnExactDecSub, with no machine in sight. -/
set_option linter.unusedSimpArgs false
namespace Go.Proofs.YtdmcibaoebmieaaDoor.R
open Go.Rf
theorem FnExactDecSub : PureFnExactDecSub := by
  intro n1 l1 s1 n2 l2 s2 _ w1 _ _ w2 _
  have z1 : l1.length ≤ 9223372036854775807 := w1.1
  have z2 : l2.length ≤ 9223372036854775807 := w2.1
  obtain ⟨r, h1, h2⟩ := szDec_ev n1 l1 s1 z1 1048576 (by omega) (by omega)
  have fin : Ev (fun k => F6 k n1 l1 s1 n2 l2 s2) ((true, ()), (((), (), (), ()), ((), (), (), ()), ())) := by
    refine Ev.step 2 (fun k => F6_eq k _ _ _ _ _ _) (Ev.bind h1 ?_)
    rcases h2 with h2 | ⟨h2, h3, h4⟩
    · simp only [h2, decide_true, if_true]
      exact Ev.now _
    · have hneg : decide (r.1.1 < 0) = false := decide_eq_false (by omega)
      obtain ⟨q, g1, g2⟩ := szDec_ev n2 l2 s2 z2 r.1.1 h2 (by omega)
      simp only [hneg, Bool.false_eq_true, if_false]
      refine Ev.bind g1 ?_
      rcases g2 with g2 | ⟨g2, _, g4⟩
      · simp only [g2, decide_true, if_true]
        exact Ev.now _
      · have hneg2 : decide (q.1.1 < 0) = false := decide_eq_false (by omega)
        obtain ⟨⟨⟨gn, gl, gs, _⟩, gc, _⟩, m1, m2, m3⟩ := DecSub_both n1 l1 s1 n2 l2 s2 h4 g4
        have m1 : gl.length ≤ 1000 := m1
        have t1 := toDec_ev n1 l1 s1 h4
        have t2 := toDec_ev n2 l2 s2 g4
        have eg := eqDec_ev gn gl gs (by omega)
        have k1 := markDec_ev n1 l1 s1 1 h4 (by omega) (by omega)
        have k2 := markDec_ev n2 l2 s2 (1 + l1.length) g4 (by omega) (by omega)
        have k3 := markDec_ev gn gl gs 1 (by omega) (by omega) (by omega)
        have k4 := heldDec_ev gn gl gs 1 (by omega) (by omega) (by omega)
        have p1 : decide (1 + (l1.length : Int) + (l2.length : Int) < 0) = false := decide_eq_false (by omega)
        have p2 : decide (1 + (gl.length : Int) < 0) = false := decide_eq_false (by omega)
        simp only [hneg2, Bool.false_eq_true, if_false]
        refine Ev.bind t1 (Ev.bind t2 (Ev.bind m3 (Ev.bind t1 (Ev.bind t2 (Ev.bind m2 (Ev.bind eg ?_))))))
        simp only [Bool.not_true, bne_self_eq_false, Bool.false_eq_true, if_false]
        refine Ev.bind t1 (Ev.bind (eqDec_ev n1 l1 s1 h4) ?_)
        simp only [Bool.not_true, Bool.false_eq_true, if_false]
        refine Ev.bind t2 (Ev.bind (eqDec_ev n2 l2 s2 g4) ?_)
        simp only [Bool.not_true, Bool.false_eq_true, if_false]
        refine Ev.bind k1 (Ev.bind k2 ?_)
        simp only [p1, Bool.false_eq_true, if_false]
        refine Ev.bind eg ?_
        simp only [Bool.not_true, bne_self_eq_false, Bool.false_eq_true, if_false]
        refine Ev.bind k3 (Ev.bind k4 ?_)
        simp only [p2, bne_self_eq_false, Bool.false_eq_true, if_false]
        refine Ev.bind t1 (Ev.bind t2 (Ev.bind m2 (Ev.bind eg ?_)))
        simp only [Bool.not_true, bne_self_eq_false, Bool.false_eq_true, if_false]
        refine Ev.bind k4 ?_
        simp only [p2, bne_self_eq_false, Bool.false_eq_true, if_false]
        exact Ev.now _
  obtain ⟨k, hk⟩ := Ev.get fin
  exact ⟨k, _, hk⟩
end Go.Proofs.YtdmcibaoebmieaaDoor.R
/-- The row, under a short name, for the claim. -/
theorem Go.Proofs.YtdmcibaoebmieaaDoor.fnExactDecSub_holds : Go.Proofs.YtdmcibaoebmieaaDoor.Rows.FnExactDecSubCardSaid := Go.Proofs.YtdmcibaoebmieaaDoor.fnExactDecSub.card Go.Proofs.YtdmcibaoebmieaaDoor.R.FnExactDecSub
