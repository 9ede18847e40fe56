/- That the law FnExactTreeGet answers true for every input, and leaves its input as it was, is proved. -/
import Derived.Test.YtldjfonpegffiaaCFnExactTreeGetx2
import Derived.Test.YtldjfonpegffiaaRows
import Derived.WalkKit
import Derived.ProofKit
import Derived.OpenShut
import Derived.ShutString
import Derived.ChangeOld
import Derived.Below
import Derived.SizedLaws
import Derived.Carry
set_option autoImplicit false
/-! Rf: the row of a law, out of its pure statement. -/
namespace Go.Proofs.Ytldjfonpegffiaa.fnExactTreeGet
open Go.Rf Go.Proofs.Ytldjfonpegffiaa.R Go.ChangeShapes Go.WideShapes Go.ChangeAt Go.RowKit
set_option linter.unusedVariables false
theorem walk (P : PureFnExactTreeGet) (w : World) (v0 : Value) (y0 : (vSh ⟨true, [.int .i64, .sl (.pair .bool (.pair (.sl .str) (.pair (.sl .str) (.pair (.sl (.int .i64)) .unit))))], [(0, 1, false), (1, 1, false)], 32⟩).D) (v1 : Value) (y1 : (vSh ⟨false, [.str], [], 16⟩).D) (h0 : ShRep w (Here w) (vSh ⟨true, [.int .i64, .sl (.pair .bool (.pair (.sl .str) (.pair (.sl .str) (.pair (.sl (.int .i64)) .unit))))], [(0, 1, false), (1, 1, false)], 32⟩) y0 v0 []) (w0 : shWf (vSh ⟨true, [.int .i64, .sl (.pair .bool (.pair (.sl .str) (.pair (.sl .str) (.pair (.sl (.int .i64)) .unit))))], [(0, 1, false), (1, 1, false)], 32⟩) y0) (h1 : ShRep w (Here w) (vSh ⟨false, [.str], [], 16⟩) y1 v1 []) (w1 : shWf (vSh ⟨false, [.str], [], 16⟩) y1) :
    Calls Try.prog 14 #[v0, v1] w fun e w' => e = .returned (.bool true) ∧ Below w.heap.size w w' := by
  obtain ⟨k, p, h⟩ := P y0.1 y0.2.1 y1 w0.1 w0.2.1 w1
  have h' : callF cx k 14 (y0, y1, ()) = some ((true, ()), p) := h
  have hr : ShsRep w (Here w) (cx.spec 14).ps (y0, y1, ()) [v0, v1] [] := ⟨[], [], rfl, h0, ⟨[], [], rfl, h1, rfl⟩⟩
  exact law_calls (told k 14 _ _ h') hr (fun _ _ h => by cases h) (fun w' Z vs fp h => res_bool h)
theorem own : ownKnob Try.prog.godebug = none := by kernel_rfl
theorem laidOut : laidOutB Try.prog = true := by kernel_rfl
set_option maxRecDepth 100000 in
theorem lifted (P : PureFnExactTreeGet) (os : Os) (started : os.Started) (H : Type) (enc : TypeId × Value → H) :
    ReturnsInHanded {} Try.checked os 14 .any (Rows.fnExactTreeGetSpec.pre6 enc Try.prog Try.f14 Rows.fnExactTreeGetRow.domain false) (Rows.fnExactTreeGetSpec.post enc Try.prog Try.f14 false true false false) := by
  refine returnsInHanded_of_change_sized (C := Try.checked) own started (by kernel_rfl) Try.func14
    (ChangeSpec.witness6 (enc := enc) (C := Try.checked) false ⟨#[], #[.agg #[.int .i64 0, .slice none 0 0], .string ByteArray.empty], []⟩ 12 (by kernel_rfl) (by kernel_rfl) (by kernel_rfl) (by kernel_rfl)) ?_
  intro W base args ds gs before hval0 hW hcnd hsz0 _
  have hval : ∀ (j : Nat) t v, Try.f14.params[j]? = some t → args[j]? = some v → Value.okWide Try.prog W .any base t v := hval0
  have hW' := hW
  obtain ⟨p, q, hA0, hV, rfl, hfz, hnd⟩ := hW
  have hA : DataW.TrodAll enc Try.prog W 0 (fun _ => true) true Try.f14.params.toList args.toList ds p := hA0
  rw [Try.params14] at hA hval
  obtain ⟨v0, vs0, d0, ds0, p0, q0, hargs, rfl, rfl, h0, r0⟩ := trodAll_cons hA
  obtain ⟨v1, vs1, d1, ds1, p1, q1, rfl, rfl, rfl, h1, r1⟩ := trodAll_cons r0
  obtain ⟨rfl, rfl, rfl⟩ := trodAll_nil r1
  obtain rfl : args = #[v0, v1] := by cases args; simp_all
  obtain ⟨rfl, rfl⟩ := trodVars_none hV
  have k0 := h0
  have lt0 : ∀ x ∈ p0, x.block < W.heap.size := by obtain ⟨m, hm⟩ := k0; exact DataW.trod_lt m _ _ _ hm
  obtain ⟨y0, hy0, w0⟩ := opnArg_ok (tab := tabs.ty) (P := Try.prog) (t := 59) (i := ⟨true, [.int .i64, .sl (.pair .bool (.pair (.sl .str) (.pair (.sl .str) (.pair (.sl (.int .i64)) .unit))))], [(0, 1, false), (1, 1, false)], 32⟩) (by kernel_rfl) (hval 0 59 v0 rfl rfl) h0
  have k1 := h1
  have lt1 : ∀ x ∈ p1, x.block < W.heap.size := by obtain ⟨m, hm⟩ := k1; exact DataW.trod_lt m _ _ _ hm
  obtain ⟨y1, hy1, w1⟩ := opnArg_ok (tab := tabs.ty) (P := Try.prog) (t := 9) (i := ⟨false, [.str], [], 16⟩) (by kernel_rfl) (hval 1 9 v1 rfl rfl) h1
  clear hA0 hval0 hsz0
  refine (walk P W v0 y0 v1 y1 hy0 w0 hy1 w1).mono fun e W' ⟨he, bel⟩ => ?_
  subst he
  exact ⟨_, rfl, _, _, _, [], _, [], hW', trodAll_mk1 (shut_bool Try.underlying4 _), (trodAll_cons_mk (Below.trod laidOut (by kernel_rfl) (of_decide_eq_true (by kernel_rfl)) k0 bel lt0) (trodAll_cons_mk (Below.trod laidOut (by kernel_rfl) (of_decide_eq_true (by kernel_rfl)) k1 bel lt1) trodAll_mk0)), rfl, bel.frame _, fun h => by cases h⟩
theorem over (P : PureFnExactTreeGet) : Rows.fnExactTreeGetRow.holds Try.pinned (OpenSpec.ofChange Rows.fnExactTreeGetSpec) :=
  OpenClaim.holds_of_wide 14 Try.f14 rfl rfl rfl rfl rfl rfl rfl ⟨rfl, rfl, rfl, rfl, rfl⟩ rfl rfl rfl rfl rfl (by kernel_rfl) Try.func14 (by kernel_rfl)
    (of_decide_eq_true (by kernel_rfl)) (by unfold Func.isWrapper; first | (rw [if_pos (by decide +kernel)]; kernel_rfl) | (rw [if_neg (by decide +kernel)]; exact ⟨rfl, rfl⟩))
    (fun os started H enc _ => lifted P os started H enc)
end Go.Proofs.Ytldjfonpegffiaa.fnExactTreeGet
/-! Rf: the law FnExactTreeGet, with no machine in sight. -/
namespace Go.Proofs.Ytldjfonpegffiaa.R
open Go.Rf
theorem FnExactTreeGet : PureFnExactTreeGet := by
  intro t l key _ hl _
  obtain ⟨hlen, hfit⟩ := fits_of hl
  by_cases hbig : (key.size : Int) > 1048576
  · obtain ⟨k, hk⟩ := Ev.get (g := fun k => F14 k t l key) (r := ((true, ()), (((), (), ()), (), ()))) (Ev.step 2 (fun k => F14_eq k t l key) (by
      simp only [hbig, decide_true, if_true]
      exact Ev.now _))
    exact ⟨k, _, hk⟩
  obtain ⟨r, h1, h2⟩ := F38_ev t l hlen hfit
  have st : ∀ {q}, Ev (fun k => if (decide (r.1.1 < (0 : Int))) = true then some ((true, ()), (((), (), ()), (), ())) else (F40 k t l).bind fun r2 => (F49 k r2.1.1.1 r2.1.1.2.1 key).bind fun r3 => (F40 k t l).bind fun r4 => (F50 k r4.1.1.1 r4.1.1.2.1 key).bind fun r5 => if (!(r5.1.1.toList == r3.1.1.toList)) = true then some ((false, ()), (((), (), ()), (), ())) else if (!(r5.1.2.1 == r3.1.2.1)) = true then some ((false, ()), (((), (), ()), (), ())) else (F40 k t l).bind fun r6 => (F25 k r4.1.1.1 r4.1.1.2.1 r6.1.1.1 r6.1.1.2.1).bind fun r7 => if (!r7.1.1) = true then some ((false, ()), (((), (), ()), (), ())) else some ((true, ()), (((), (), ()), (), ()))) q → Ev (fun k => F14 k t l key) q := by
    intro q hq
    refine Ev.step 2 (fun k => F14_eq k t l key) ?_
    simp only [hbig, decide_false, Bool.false_eq_true, if_false]
    exact Ev.bind h1 hq
  rcases h2 with h2 | ⟨h2, h3, h4⟩
  · obtain ⟨k, hk⟩ := Ev.get (st (q := ((true, ()), (((), (), ()), (), ()))) (by
      simp only [h2, decide_true, if_true]
      exact Ev.now _))
    exact ⟨k, _, hk⟩
  · have hneg : decide (r.1.1 < 0) = false := by simp; omega
    have h40 := F40_ev t l h3 h4
    have fin : ∀ {v : ByteArray} {b : Bool}, Ev (fun k => F49 k t l key) ((v, b, ()), (((), (), ()), (), ())) → Ev (fun k => F50 k t l key) ((v, b, ()), (((), (), ()), (), ())) → ∃ k p, F14 k t l key = some ((true, ()), p) := by
      intro v b e1 e2
      obtain ⟨k, hk⟩ := Ev.get (st (q := ((true, ()), (((), (), ()), (), ()))) (by
        simp only [hneg, Bool.false_eq_true, if_false]
        refine Ev.bind h40 (Ev.bind e1 (Ev.bind h40 (Ev.bind e2 ?_)))
        simp only [beq_self_eq_true, Bool.not_true, Bool.false_eq_true, if_false]
        refine Ev.bind h40 (Ev.bind (F25_ev t l h3 h4) ?_)
        simp only [Bool.not_true, Bool.false_eq_true, if_false]
        exact Ev.now _))
      exact ⟨k, _, hk⟩
    obtain ⟨v, v1, vS, v2, v3⟩ := deep_ev' t l h4
    have s49 : ∀ {q}, Ev (fun k => if (decide (v < (0 : Int))) = true then some (((⟨#[]⟩ : ByteArray), false, ()), (((), (), ()), (), ())) else (F94 k t l key).bind fun r2 => some ((r2.1.1, r2.1.2.1, ()), (((), (), ()), (), ()))) q → Ev (fun k => F49 k t l key) q := fun hq => Ev.step 2 (fun k => F49_eq k _ _ _) (Ev.bind v2 hq)
    have s50 : ∀ {q}, Ev (fun k => if (!(decide ((if v < 0 then 0 else v) > (0 : Int)))) = true then some (((⟨#[]⟩ : ByteArray), false, ()), (((), (), ()), (), ())) else (F95 k t l key).bind fun r2 => some ((r2.1.1, r2.1.2.1, ()), (((), (), ()), (), ()))) q → Ev (fun k => F50 k t l key) q := fun hq => Ev.step 2 (fun k => F50_eq k _ _ _) (Ev.bind (Ev.step 2 (fun k => F41_eq k _ _) (Ev.bind v3 (Ev.now _))) hq)
    rcases v1 with rfl | v1
    · exact fin (s49 (Ev.now _)) (s50 (Ev.now _))
    · have hv : decide (v < 0) = false := by simp; omega
      have hv2 : (!(decide ((if v < 0 then 0 else v) > (0 : Int)))) = false := by
        rw [if_neg (by omega)]
        simp
        omega
      simp only [hv, Bool.false_eq_true, if_false] at s49
      simp only [hv2, Bool.false_eq_true, if_false] at s50
      have hS := vS v1
      have hle : v.toNat ≤ 900 := by
        obtain ⟨_, _, _, _, _, hc⟩ := hS
        have : ∀ d : Nat, d ≤ cost true d := by
          have : ∀ d : Nat, d ≤ cost false d := by
            intro d
            induction d with
            | zero => exact Nat.le_refl _
            | succ d ih =>
              show d + 1 ≤ 1 + 3 * cost false d
              omega
          intro d
          cases d with
          | zero => exact Nat.le_refl _
          | succ d =>
            have := this d
            show d + 1 ≤ 1 + 2 * cost false d
            omega
        have := this v.toNat
        omega
      obtain ⟨x, b, e1, e2⟩ := get_ev hS hle key
      exact fin (s49 (Ev.bind e1 (Ev.now _))) (s50 (Ev.bind e2 (Ev.now _)))
end Go.Proofs.Ytldjfonpegffiaa.R
/-- The row, under a short name, for the claim. -/
theorem Go.Proofs.Ytldjfonpegffiaa.fnExactTreeGet_holds : Go.Proofs.Ytldjfonpegffiaa.Rows.FnExactTreeGetSaid := Go.Proofs.Ytldjfonpegffiaa.fnExactTreeGet.over Go.Proofs.Ytldjfonpegffiaa.R.FnExactTreeGet
