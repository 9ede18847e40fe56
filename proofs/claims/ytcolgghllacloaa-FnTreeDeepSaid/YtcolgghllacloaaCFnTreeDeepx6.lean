/- A part of the proof that the law FnTreeDeep answers true for every input: contracts of functions that it reaches, or its plain law. -/
import Derived.Test.YtcolgghllacloaaProg
import Derived.Below
import Derived.Deep.Draws
import Derived.Deep.AppendLies
import Derived.Maps.AppendAt
import Derived.OwnWalk
import Derived.Laws.BytesArg
import Derived.Laws.MakeOwn
import Derived.Laws.OwnMore
import Derived.Deep.OwnRows
import Derived.Tactics
import Derived.Lib.ConvBytes
import Derived.Laws.Slices
import Derived.WalkKit
import Derived.KernelRfl
import Derived.RowKit3
import Derived.Deep.LoopGhost
import Derived.Deep.QuietTactic
import Derived.BigQuiet
import Derived.WideLaws
import Derived.Deep.DeepCutAuto
import Derived.Deep.CutBlock
import Derived.Deep.RegionHeld3
import Derived.Laws.Rows
import Derived.Lib.AppendStr
import Derived.ArgAppend
import Derived.Laws.IdiomCopy
import Derived.OrdersHeld
import Derived.Laws.BitsLemmas
import Derived.RowKit
import Derived.Laws.StructEq
import Derived.Lib.ItoaNum
import Derived.Lib.Repeat
import Derived.OneCell
import Derived.Laws.Cover1
import Derived.Test.YtcolgghllacloaaRows
import Derived.ProofKit
import Derived.OpenShut
import Derived.ShutString
import Derived.ChangeOld
import Derived.SizedLaws
import Derived.Carry
import Derived.Test.YtcolgghllacloaaCFnTreeDeepx0
import Derived.Test.YtcolgghllacloaaCFnTreeDeepx1
import Derived.Test.YtcolgghllacloaaCFnTreeDeepx2
import Derived.Test.YtcolgghllacloaaCFnTreeDeepx3
import Derived.Test.YtcolgghllacloaaCFnTreeDeepx4
import Derived.Test.YtcolgghllacloaaCFnTreeDeepx5
set_option autoImplicit false
set_option linter.unusedVariables false
set_option linter.unusedSimpArgs false
namespace Go.Proofs.Ytcolgghllacloaa.Q
end Go.Proofs.Ytcolgghllacloaa.Q
namespace Go.Proofs.Ytcolgghllacloaa.R
end Go.Proofs.Ytcolgghllacloaa.R
namespace Go.Proofs.YtcolgghllacloaaW.PrintLast
end Go.Proofs.YtcolgghllacloaaW.PrintLast
namespace Go.Proofs.YtcolgghllacloaaW.PrintMore
end Go.Proofs.YtcolgghllacloaaW.PrintMore
namespace Go.Proofs.YtcolgghllacloaaW.PrintWords
end Go.Proofs.YtcolgghllacloaaW.PrintWords
section
namespace Go.Proofs.Ytcolgghllacloaa.Tm
open Go.Rf (RowIn strs ints rep nodeT ownL blk Src IsLow IsUp)
open Go.Proofs.Ytcolgghllacloaa.R (okLen okNode Has Down)
open Go.RowKit Go.Proofs.Ytcolgghllacloaa.Q Go.Proofs.YtcolgghllacloaaW.PrintWords Go.Proofs.YtcolgghllacloaaW.PrintLast Go.Proofs.YtcolgghllacloaaW.PrintMore
section
variable {N : List Nd} {lv : Nat → Nat} {rt : Nat} {key : ByteArray}
theorem WF.down (h : WF (N.map sk) lv rt x0) : ∀ (d i : Nat), lv i < d → (∃ s, (N.map sk)[i]? = some s ∧ s ≠ zS) → Down N key i := by
 intro d
 induction d with
 | zero => intro i hi; omega
 | succ d ih =>
  intro i hi hnz
  obtain ⟨s, hs, hz⟩ := hnz
  have hs0 := hs
  rw [List.getElem?_map] at hs0
  obtain ⟨n, hn, e⟩ := Option.map_eq_some_iff.1 hs0
  have h4 := h.four i _ hs
  obtain ⟨lf, aK, aV, aI, rfl, h1, h2⟩ := h.shape hs hz
  have e0 : n.1 = lf := congrArg (fun s : Sk => s.1) e
  have e1 : n.2.1.length = aK := congrArg (fun s : Sk => s.2.1) e
  have e2 : n.2.2.1.length = aV := congrArg (fun s : Sk => s.2.2.1) e
  have e3 : n.2.2.2.1 = aI := congrArg (fun s : Sk => s.2.2.2) e
  simp only at h4
  have hok : okLen n.2.1.length := by unfold okLen; omega
  cases lf with
  | true => exact .leaf hn e0 hok (by have := (h1 rfl).1; omega)
  | false =>
   obtain ⟨_, hl, _⟩ := h2 rfl
   obtain ⟨p, hp⟩ := Go.Proofs.Ytcolgghllacloaa.R.up_ex n.2.1 hok key
   have hpl := hp.1
   obtain ⟨q, hq⟩ : ∃ q, aI[p]? = some q := ⟨_, List.getElem?_eq_getElem (by omega)⟩
   obtain ⟨j, rfl, _, hjz, hlj⟩ := h.at_kid (at' := i) hs hq
   exact .inner hn e0 hok hp (by rw [e3]; exact hq) (ih j (by omega) hjz)
theorem WF.root_ok {S : List Sk} (h : WF S lv rt (x1 rt)) {s : Sk} (hs : S[rt]? = some s) (h1 : s.1 = false → 1 ≤ s.2.1) : WF S lv rt x0 := by
 refine ⟨h.len, h.rt, h.leaf, h.inner, h.four, h.kid, fun i t ht hz => ?_, h.inj⟩
 by_cases e : i = rt
 ·subst e
  rw [hs] at ht
  obtain rfl := Option.some.inj ht
  exact ⟨fun hh => (hh rfl).elim, fun hl => h1 hl⟩
 ·have := h.min i t ht hz
  simp only [x1, if_neg e] at this
  exact this
theorem WF.shrink0 {S : List Sk} (h : WF S lv rt (x1 rt)) {V k : Nat} (ho : S[rt]? = some (false, 0, V, [(k : Int)])) : WF (S.set rt zS) lv k x0 := by
 refine (h.shrink ho).relax fun i s hs hz => ?_
 by_cases e : i = rt
 ·subst e
  rw [set_eq (List.getElem?_eq_some_iff.1 ho).1] at hs
  exact (hz (Option.some.inj hs).symm).elim
 ·simp only [x1, if_neg e]
  exact Nat.le_refl _
theorem c_get {w : World} {B g c : Nat} (h : TI w B g N) (hc : (N.map sk).length ≤ c) (hd : Down N key rt) : Calls Try.prog 73 #[tv (rt : Int) g (N.map sk).length c, .string key] w (Ans fun v w' => ∃ s b, v = .tuple #[.string s, .bool b] ∧ (b = true → Has N key rt) ∧ Below w.heap.size w w') := by
 rw [List.length_map] at hc ⊢
 refine (Go.Proofs.Ytcolgghllacloaa.R.ask_get (h.rep hc) hd).mono ?_
 rintro e w' ⟨s, b, rfl, h1, h2⟩
 exact ⟨_, rfl, s, b, rfl, h1, h2⟩
end
set_option maxRecDepth 100000 in
set_option maxHeartbeats 4000000 in
theorem treeDrop_any (wz : World) (B : Nat) (v : Value) (key : ByteArray) (hB : B ≤ wz.heap.size) (hv : TreeV wz B v) : Calls Try.prog 65 #[v, .string key] wz (Ans (TreeRes wz)) := by
 obtain ⟨rt, g, c, S, lv, rfl, hc, ⟨N, hN, hNS⟩, hw⟩ := hv
 subst hNS
 have hl := hw.len
 have E := Env.start hB hN.ts
 have hZ := Below.refl wz.heap.size wz
 refine enter (args := [tv (rt : Int) g (N.map sk).length c, .string key]) Try.func65 rfl Try.ntmps65 rfl ?_
 intro x hT
 refine wp_seq ?_
 refine wp_region_lit ?_
 refine L_w hT rfl rfl rfl (e_box E rfl rfl) ?_
 rintro _ w ⟨b2, rfl, E, m⟩ x hT
 have hZ := hZ.trans (m.mono hZ.size)
 refine L_w hT rfl rfl rfl (e_tree E rfl) ?_
 rintro _ w ⟨b4, rfl, E, m⟩ x hT
 have hZ := hZ.trans (m.mono hZ.size)
 refine lq hT (q_assign rfl rfl) fun x hT => ?_
 refine wpList_nil ?_
 show Code.wp _ _ _ _ _
 refine wp_seq ?_
 refine wp_region_lit ?_
 refine lq hT (q_load rfl rfl (l_tree (by exact E.cell (k := 1) rfl rfl) (by exact E.cell (k := 1) rfl rfl))) fun x hT => ?_
 refine lq hT (q_move rfl rfl) fun x hT => ?_
 refine L_w hT rfl rfl rfl (w_callN rfl rfl (by kernel_rfl) (args := [_, _]) rfl (c_get (hN.below hZ) hc (hw.down (lv rt + 1) rt (by omega) hw.rt))) ?_
 rintro _ w ⟨s, there, rfl, hthere, m⟩ x hT
 have E := E.below m
 have hZ := hZ.trans (m.mono hZ.size)
 refine lq hT (q_move rfl rfl) fun x hT => ?_
 refine lq hT (q_extract rfl rfl rfl) fun x hT => ?_
 refine lq hT (q_extract rfl rfl rfl) fun x hT => ?_
 refine lq hT (q_assign rfl rfl) fun x hT => ?_
 refine lq hT (q_assign rfl rfl) fun x hT => ?_
 refine wpList_nil ?_
 show Code.wp _ _ _ _ _
 refine wp_seq ?_
 refine wp_seq ?_
 refine wp_region_lit ?_
 refine lq hT (q_move rfl rfl) fun x hT => ?_
 refine lq hT (q_not rfl rfl) fun x hT => ?_
 refine wpList_nil ?_
 show Code.wp _ _ _ _ _
 cases there with
 | false =>
  refine wp_cond_true (hT.ev rfl) ?_
  refine wp_seq ?_
  refine wp_region_lit ?_
  refine lq hT (q_load rfl rfl (l_tree (by exact E.cell (k := 1) rfl rfl) (by exact E.cell (k := 1) rfl rfl))) fun x hT => ?_
  refine L_w hT rfl rfl rfl (w_callN rfl rfl (by kernel_rfl) (args := [_]) rfl (c_copy (Nat.le_trans hB E.size) (hN.below hZ) hw.small (by omega) (by omega) hc)) ?_
  rintro _ w ⟨g2, c2, rfl, hc2, hg2, hT2, m⟩ x hT
  have hZ := hZ.trans (m.mono hZ.size)
  have E := E.change m hZ hT2 E.size hg2
  refine L_s hT rfl rfl (e_st2 0 E rfl rfl rfl rfl rfl rfl) ?_
  rintro _ w E
  refine lq hT (q_assign rfl rfl) fun x hT => ?_
  refine wpList_nil ?_
  show Code.wp _ _ _ _ _
  refine wp_ret ?_
  repeat refine then_ret ?_
  show bodyPost _ _ _ _ _ _
  refine ret_ti hT rfl rfl rfl (E.bx _ (nth_mem (k := 0) rfl)) ?_
  exact ⟨_, rfl, _, 3, rfl, ⟨rt, g2, c2, N.map sk, lv, rfl, hc2, E.ts, hw⟩, E.fr.below⟩
 | true =>
 have hthere := hthere rfl
 refine wp_cond_false (hT.ev rfl) ?_
 refine wp_skip ?_
 show Code.wp _ _ _ _ _
 refine wp_seq ?_
 have hZ := hZ.trans ((below_drew w).mono hZ.size)
 refine wp_cut (fun x w => ∃ (b8 g1 c1 : Nat) (S1 : List Sk), hT.keepP [(8, .pointer (some ⟨b8, 0, none⟩))] [1, 2, 4] x ∧ E.atG g1 [(b8, 30, [.int .i64 (rt : Int), .slice (some ⟨g1, 0, none⟩) (N.map sk).length c1])] S1 w ∧ (N.map sk).length ≤ c1 ∧ DropR (N.map sk) lv rt rt S1) ?_ ?_
 ·refine wp_region_M (n := 8) (Below w.drew.heap.size w.drew) [0, 1, 2, 3, 4, 6] [5] (by kernel_rfl) rfl ?_
  have hS := Below.refl w.drew.heap.size w.drew
  have E0 := E.below (below_drew w)
  have E := E0
  refine mQ 0 [1, 5, 7] hT hS rfl (fun w' hw => q_load rfl rfl (l_tree (ck (by exact E0.cell (k := 1) rfl rfl) w' hw) (ck (by exact E0.cell (k := 1) rfl rfl) w' hw))) fun x hT => ?_
  refine mQ 2 [3, 5, 7] hT hS rfl (fun w' hw => q_field rfl rfl fT rfl) fun x hT => ?_
  refine mQ 3 [5, 7] hT hS rfl (fun w' hw => q_load rfl rfl (l_int (ck (by exact E0.cell (k := 1) rfl rfl) w' hw))) fun x hT => ?_
  refine mQ 4 [5, 7] hT hS rfl (fun w' hw => q_move rfl rfl) fun x hT => ?_
  refine M_two 1 6 (by kernel_rfl) ?_ ?_
  ·refine at_w hT rfl rfl rfl rfl (w_callN rfl rfl (by kernel_rfl) (args := [_]) rfl (c_copy E.hBw (hN.below (hZ.trans (hS.mono hZ.size))) hw.small (by omega) (by omega) hc)) ?_
   rintro _ w ⟨g1, c1, rfl, hc1, hg1, hT1, m⟩ x hT
   have hS := hS.trans (m.mono hS.size)
   have hT1 := hT1.weaken E.size
   have E := E.change m (hZ.trans (hS.mono hZ.size)) hT1 (Nat.le_refl _) hg1
   refine ⟨fun _ _ => hS, ?_⟩
   refine M_two 5 6 (by kernel_rfl) ?_ ?_
   ·refine at_w hT rfl rfl rfl rfl (w_callN rfl rfl (by kernel_rfl) (args := [_, _, _]) rfl (drop_any wz.heap.size g1 c1 (rt : Int) N key lv rt hc1 hw (lv rt + 1) rt (by omega) _ E.hBw hT1 hthere hw.rt)) ?_
    rintro _ w ⟨rfl, S1, hT2, hF2, hR2⟩ x hT
    have E := E.step hF2 hT2
    refine ⟨fun h => absurd h (by decide), ?_⟩
    refine M_one 6 (by kernel_rfl) ?_
    refine at_w hT rfl rfl rfl rfl (e_tree E rfl) ?_
    rintro _ w ⟨b8, rfl, E, m⟩ x hT
    refine ⟨fun _ hc => (late 5 hc (by decide) (by kernel_rfl)).elim, ?_⟩
    refine M_one 7 (by kernel_rfl) ?_
    refine at_s hT rfl rfl rfl (e_st2 0 E rfl rfl rfl rfl rfl rfl) ?_
    rintro _ w E
    refine ⟨fun h => absurd h (by decide), ?_⟩
    refine M_end (by kernel_rfl) ?_
    exact ⟨rfl, _, g1, c1, S1, hT.sel [8, 1, 2, 4], E, hc1, hR2⟩
   ·refine at_w hT rfl rfl rfl rfl (e_tree E rfl) ?_
    rintro _ w ⟨b8, rfl, E, m⟩ x hT
    have hT1 := hT1.below m
    have hS := hS.trans (m.mono hS.size)
    refine ⟨fun _ _ => hS, ?_⟩
    refine M_one 5 (by kernel_rfl) ?_
    refine at_w hT rfl rfl rfl rfl (w_callN rfl rfl (by kernel_rfl) (args := [_, _, _]) rfl (drop_any wz.heap.size g1 c1 (rt : Int) N key lv rt hc1 hw (lv rt + 1) rt (by omega) _ E.hBw hT1 hthere hw.rt)) ?_
    rintro _ w ⟨rfl, S1, hT2, hF2, hR2⟩ x hT
    have E := E.step hF2 hT2
    refine ⟨fun h => absurd h (by decide), ?_⟩
    refine M_one 7 (by kernel_rfl) ?_
    refine at_s hT rfl rfl rfl (e_st2 0 E rfl rfl rfl rfl rfl rfl) ?_
    rintro _ w E
    refine ⟨fun h => absurd h (by decide), ?_⟩
    refine M_end (by kernel_rfl) ?_
    exact ⟨rfl, _, g1, c1, S1, hT.sel [8, 1, 2, 4], E, hc1, hR2⟩
  ·refine at_w hT rfl rfl rfl rfl (e_tree E rfl) ?_
   rintro _ w ⟨b8, rfl, E, m⟩ x hT
   have hS := hS.trans (m.mono hS.size)
   refine ⟨fun _ _ => hS, ?_⟩
   refine M_one 1 (by kernel_rfl) ?_
   refine at_w hT rfl rfl rfl rfl (w_callN rfl rfl (by kernel_rfl) (args := [_]) rfl (c_copy E.hBw (hN.below (hZ.trans (hS.mono hZ.size))) hw.small (by omega) (by omega) hc)) ?_
   rintro _ w ⟨g1, c1, rfl, hc1, hg1, hT1, m⟩ x hT
   have hS := hS.trans (m.mono hS.size)
   have hT1 := hT1.weaken E.size
   have E := E.change m (hZ.trans (hS.mono hZ.size)) hT1 (Nat.le_refl _) hg1
   refine ⟨fun _ _ => hS, ?_⟩
   refine M_one 5 (by kernel_rfl) ?_
   refine at_w hT rfl rfl rfl rfl (w_callN rfl rfl (by kernel_rfl) (args := [_, _, _]) rfl (drop_any wz.heap.size g1 c1 (rt : Int) N key lv rt hc1 hw (lv rt + 1) rt (by omega) _ E.hBw hT1 hthere hw.rt)) ?_
   rintro _ w ⟨rfl, S1, hT2, hF2, hR2⟩ x hT
   have E := E.step hF2 hT2
   refine ⟨fun h => absurd h (by decide), ?_⟩
   refine M_one 7 (by kernel_rfl) ?_
   refine at_s hT rfl rfl rfl (e_st2 0 E rfl rfl rfl rfl rfl rfl) ?_
   rintro _ w E
   refine ⟨fun h => absurd h (by decide), ?_⟩
   refine M_end (by kernel_rfl) ?_
   exact ⟨rfl, _, g1, c1, S1, hT.sel [8, 1, 2, 4], E, hc1, hR2⟩
 rintro x w ⟨b8, g1, c1, S1, hT, E, hc1, hR1⟩
 unfold Tm.keepP at hT
 unfold Env.atG at E
 obtain ⟨w1, _, s, hs1, hz1⟩ := hR1
 have hl1 : S1.length = (N.map sk).length := by rw [w1.len, hl]
 have hrt := (List.getElem?_eq_some_iff.1 hs1).1
 obtain ⟨lf, aK, aV, aI, rfl, h1, h2⟩ := w1.shape hs1 hz1
 show Code.wp _ _ _ _ _
 refine wp_seq ?_
 obtain ⟨uA, uc, uA2, uc2, uA3, uc3, q0, q1, q2, q3, E⟩ := E.readf hs1
 refine wp_region_lit ?_
 refine lq hT (q_field rfl rfl fT rfl) fun x hT => ?_
 refine lq hT (q_load rfl rfl (l_sn (by exact E.cell (k := 0) rfl rfl))) fun x hT => ?_
 refine lq hT (q_field rfl rfl fT rfl) fun x hT => ?_
 refine lq hT (q_load rfl rfl (l_int (by exact E.cell (k := 0) rfl rfl))) fun x hT => ?_
 refine lq hT (q_index rfl rfl rfl (i_node (by omega))) fun x hT => ?_
 refine lq hT (q_load rfl rfl (l_node q0 q1 q2 q3)) fun x hT => ?_
 refine L_w hT rfl rfl rfl (e_node E rfl) ?_
 rintro _ w ⟨b9, rfl, E, m⟩ x hT
 refine L_s hT rfl rfl (e_st4 0 E rfl rfl rfl rfl rfl rfl rfl rfl) ?_
 rintro _ w E
 refine wpList_nil ?_
 clear q0 q1 q2 q3
 show Code.wp _ _ _ _ _
 refine wp_seq ?_
 refine wp_seq ?_
 cases lf with
 | true =>
  refine wp_region_lit ?_
  refine lq hT (q_field rfl rfl fN rfl) fun x hT => ?_
  refine lq hT (q_load rfl rfl (l_bool (by exact E.cell (k := 0) rfl rfl))) fun x hT => ?_
  refine lq hT (q_not rfl rfl) fun x hT => ?_
  refine lq hT (q_move rfl rfl) fun x hT => ?_
  refine L_qn hT rfl rfl rfl rfl rfl rfl rfl ?_
  intro x hT
  refine L_qn hT rfl rfl rfl rfl rfl rfl rfl ?_
  intro x hT
  refine L_qn hT rfl rfl rfl rfl rfl rfl rfl ?_
  intro x hT
  refine L_qn hT rfl rfl rfl rfl rfl rfl rfl ?_
  intro x hT
  refine lq hT (q_pick_f rfl rfl rfl) fun x hT => ?_
  refine wpList_nil ?_
  show Code.wp _ _ _ _ _
  refine wp_cond_false (hT.ev rfl) ?_
  refine wp_skip ?_
  show Code.wp _ _ _ _ _
  refine wp_seq ?_
  refine wp_region_lit ?_
  refine lq hT (q_load rfl rfl (l_tree (by exact E.cell (k := 1) rfl rfl) (by exact E.cell (k := 1) rfl rfl))) fun x hT => ?_
  refine L_s hT rfl rfl (e_st2 2 E rfl rfl rfl rfl rfl rfl) ?_
  rintro _ w E
  refine lq hT (q_assign rfl rfl) fun x hT => ?_
  refine wpList_nil ?_
  show Code.wp _ _ _ _ _
  refine wp_ret ?_
  repeat refine then_ret ?_
  show bodyPost _ _ _ _ _ _
  refine ret_ti hT rfl rfl rfl (E.bx _ (nth_mem (k := 2) rfl)) ?_
  exact ⟨_, rfl, _, 0, rfl, ⟨rt, g1, c1, S1, lv, by rw [hl1], by rw [hl1]; exact hc1, E.ts, w1.root_ok hs1 (fun e => by cases e)⟩, E.fr.below⟩
 | false =>
  obtain ⟨_, hkl, _⟩ := h2 rfl
  refine wp_region_lit ?_
  refine lq hT (q_field rfl rfl fN rfl) fun x hT => ?_
  refine lq hT (q_load rfl rfl (l_bool (by exact E.cell (k := 0) rfl rfl))) fun x hT => ?_
  refine lq hT (q_not rfl rfl) fun x hT => ?_
  refine lq hT (q_move rfl rfl) fun x hT => ?_
  refine L_qg hT rfl rfl rfl rfl rfl rfl (q_field rfl rfl fN rfl) ?_
  intro x hT
  refine L_qg hT rfl rfl rfl rfl rfl rfl (q_load rfl rfl (l_ss (by exact E.cell (k := 0) rfl rfl))) ?_
  intro x hT
  refine L_qg hT rfl rfl rfl rfl rfl rfl (q_len rfl Try.underlying62 rfl) ?_
  intro x hT
  refine L_qg hT rfl rfl rfl rfl rfl rfl (q_bin rfl rfl rfl n_eq) ?_
  intro x hT
  refine lq hT (q_pick_t rfl rfl rfl) fun x hT => ?_
  refine wpList_nil ?_
  show Code.wp _ _ _ _ _
  rcases Nat.eq_zero_or_pos aK with rfl | hpos
  ·obtain ⟨k, hk⟩ : ∃ k, aI = [k] := by
    match aI, hkl with
    | [k], _ => exact ⟨k, rfl⟩
   subst hk
   obtain ⟨k', e, _⟩ := w1.kid rt _ hs1 k (by simp)
   subst e
   obtain ⟨kb, rfl, hkc⟩ := RD.iblk (E.row (k := 2) rfl) (by simp)
   refine wp_cond_true (hT.ev rfl) ?_
   refine wp_seq ?_
   refine wp_region_lit ?_
   refine lq hT (q_field rfl rfl fT rfl) fun x hT => ?_
   refine lq hT (q_load rfl rfl (l_sn (by exact E.cell (k := 1) rfl rfl))) fun x hT => ?_
   refine lq hT (q_field rfl rfl fT rfl) fun x hT => ?_
   refine lq hT (q_load rfl rfl (l_int (by exact E.cell (k := 1) rfl rfl))) fun x hT => ?_
   refine lq hT (q_build0 rfl build_node) fun x hT => ?_
   refine lq hT (q_index rfl rfl rfl (i_node (by omega))) fun x hT => ?_
   refine L_s hT rfl rfl (e_stN E rfl rfl rfl nodeV_zero hrt) ?_
   rintro _ w E
   refine wpList_nil ?_
   show Code.wp _ _ _ _ _
   have i1 := RD.iat (E.row (k := 2) rfl) (j := 0) (x := (k' : Int)) rfl
   refine wp_region_lit ?_
   refine lq hT (q_field rfl rfl fN rfl) fun x hT => ?_
   refine lq hT (q_load rfl rfl (l_si (by exact E.cell (k := 0) rfl rfl))) fun x hT => ?_
   refine lq hT (q_index rfl rfl rfl (i_int0 (by simp))) fun x hT => ?_
   refine lq hT (q_load rfl rfl (l_int i1)) fun x hT => ?_
   refine lq hT (q_field rfl rfl fT rfl) fun x hT => ?_
   refine L_s hT rfl rfl (e_st1 1 E rfl rfl rfl rfl rfl rfl) ?_
   rintro _ w E
   refine wpList_nil ?_
   show Code.wp _ _ _ _ _
   refine wp_seq ?_
   refine wp_region_lit ?_
   refine lq hT (q_load rfl rfl (l_tree (by exact E.cell (k := 1) rfl rfl) (by exact E.cell (k := 1) rfl rfl))) fun x hT => ?_
   refine L_s hT rfl rfl (e_st2 2 E rfl rfl rfl rfl rfl rfl) ?_
   rintro _ w E
   refine lq hT (q_assign rfl rfl) fun x hT => ?_
   refine wpList_nil ?_
   show Code.wp _ _ _ _ _
   refine wp_ret ?_
   repeat refine then_ret ?_
   show bodyPost _ _ _ _ _ _
   refine ret_ti hT rfl rfl rfl (E.bx _ (nth_mem (k := 2) rfl)) ?_
   refine ⟨_, rfl, _, 0, rfl, ⟨k', g1, c1, S1.set rt zS, lv, ?_, ?_, E.ts, w1.shrink0 hs1⟩, E.fr.below⟩
   ·rw [List.length_set, hl1]
   ·rw [List.length_set, hl1]
    exact hc1
  ·have hne : (((aK : Nat) : Int) == 0) = false := by simp; omega
   refine wp_cond_false ((hT.ev rfl).trans (congrArg Value.bool hne)) ?_
   refine wp_skip ?_
   show Code.wp _ _ _ _ _
   refine wp_seq ?_
   refine wp_region_lit ?_
   refine lq hT (q_load rfl rfl (l_tree (by exact E.cell (k := 1) rfl rfl) (by exact E.cell (k := 1) rfl rfl))) fun x hT => ?_
   refine L_s hT rfl rfl (e_st2 2 E rfl rfl rfl rfl rfl rfl) ?_
   rintro _ w E
   refine lq hT (q_assign rfl rfl) fun x hT => ?_
   refine wpList_nil ?_
   show Code.wp _ _ _ _ _
   refine wp_ret ?_
   repeat refine then_ret ?_
   show bodyPost _ _ _ _ _ _
   refine ret_ti hT rfl rfl rfl (E.bx _ (nth_mem (k := 2) rfl)) ?_
   exact ⟨_, rfl, _, 0, rfl, ⟨rt, g1, c1, S1, lv, by rw [hl1], by rw [hl1]; exact hc1, E.ts, w1.root_ok hs1 (fun _ => hpos)⟩, E.fr.below⟩
end Go.Proofs.Ytcolgghllacloaa.Tm
end

section
namespace Go.Proofs.Ytcolgghllacloaa.R
open Go.Rf Go.RowKit
structure Rd (bs : List Int) : Prop where
 len : bs.length ≤ 2000
 b8 : ∀ y ∈ bs, 0 ≤ y ∧ y ≤ 255
theorem xor_small {a b : Int} (ha : 0 ≤ a) (ha2 : a < 4611686018427387904) (hb : 0 ≤ b) (hb2 : b < 4611686018427387904) : 0 ≤ IntKind.i64.wrap (((BitVec.ofInt IntKind.i64.bits a ^^^ BitVec.ofInt IntKind.i64.bits b).toNat : Nat) : Int) := by
 have e : IntKind.i64.bits = 64 := rfl
 have h1 : (BitVec.ofInt IntKind.i64.bits a).toNat < 2 ^ 62 := by
  rw [BitVec.toNat_ofInt, e]
  omega
 have h2 : (BitVec.ofInt IntKind.i64.bits b).toNat < 2 ^ 62 := by
  rw [BitVec.toNat_ofInt, e]
  omega
 have h3 : (BitVec.ofInt IntKind.i64.bits a ^^^ BitVec.ofInt IntKind.i64.bits b).toNat < 2 ^ 62 := by
  rw [BitVec.toNat_xor]
  exact Nat.xor_lt_two_pow h1 h2
 rw [wrap64 (by omega) (by omega)]
 omega
theorem tmod_range {x n : Int} (hx : 0 ≤ x) (hn : 1 ≤ n) : 0 ≤ x.tmod n ∧ x.tmod n < n := by
 rw [Int.tmod_eq_emod_of_nonneg hx]
 exact ⟨Int.emod_nonneg _ (by omega), Int.emod_lt_of_pos _ (by omega)⟩
theorem pick_ev {bs : List Int} (hb : Rd bs) {p : Nat} (hp : p ≤ 1000000000) (n : Int) : ∃ v : Int, (0 ≤ v ∧ (1 ≤ n → v < n) ∧ (n < 1 → v = 0)) ∧ Ev (fun k => F49 k bs (p : Int) n) ((v, ()), ((bs, ((p + 1 : Nat) : Int), ()), (), ())) := by
 have e1 : IntKind.i64.wrap ((p : Int) + 1) = ((p + 1 : Nat) : Int) := wrap_succ (by omega)
 have e2 : IntKind.i64.wrap (((p + 1 : Nat) : Int) - 1) = (p : Int) := by rw [wrap64 (by omega) (by omega)]; omega
 have st : ∀ {r}, Ev (fun _ => if (decide (n < (1 : Int))) = true then some (((0 : Int), ()), ((bs, ((p + 1 : Nat) : Int), ()), (), ())) else if ((bs.length : Int) == (0 : Int)) = true then some (((0 : Int), ()), ((bs, ((p + 1 : Nat) : Int), ()), (), ())) else if (decide ((p : Int) < (bs.length : Int))) = true then if (decide (0 ≤ (p : Int))) = true then (bs[((p : Int)).toNat]?).bind fun y1 => if (!(n == 0)) = true then some ((((IntKind.i64.wrap y1).tmod n), ()), ((bs, ((p + 1 : Nat) : Int), ()), (), ())) else none else none else if (!((bs.length : Int) == 0)) = true then if (decide (0 ≤ ((p : Int).tmod (bs.length : Int)))) = true then (bs[((p : Int).tmod (bs.length : Int)).toNat]?).bind fun y2 => if (!((bs.length : Int) == 0)) = true then if (decide (0 ≤ ((IntKind.i64.wrap ((IntKind.i64.wrap ((p : Int) * (7 : Int))) + (3 : Int))).tmod (bs.length : Int)))) = true then (bs[((IntKind.i64.wrap ((IntKind.i64.wrap ((p : Int) * (7 : Int))) + (3 : Int))).tmod (bs.length : Int)).toNat]?).bind fun y3 => if (!((bs.length : Int) == 0)) = true then if (!(n == 0)) = true then some ((((IntKind.i64.wrap (((BitVec.ofInt IntKind.i64.bits (IntKind.i64.wrap ((IntKind.i64.wrap ((IntKind.i64.wrap ((IntKind.i64.wrap ((IntKind.i64.wrap y2) * (131 : Int))) + (IntKind.i64.wrap ((IntKind.i64.wrap y3) * (1117 : Int))))) + (IntKind.i64.wrap ((p : Int) * (29 : Int))))) + (IntKind.i64.wrap ((IntKind.i64.wrap ((p : Int).tdiv (bs.length : Int))) * (53 : Int))))) ^^^ BitVec.ofInt IntKind.i64.bits (IntKind.i64.wrap ((IntKind.i64.wrap ((IntKind.i64.wrap ((IntKind.i64.wrap ((IntKind.i64.wrap ((IntKind.i64.wrap y2) * (131 : Int))) + (IntKind.i64.wrap ((IntKind.i64.wrap y3) * (1117 : Int))))) + (IntKind.i64.wrap ((p : Int) * (29 : Int))))) + (IntKind.i64.wrap ((IntKind.i64.wrap ((p : Int).tdiv (bs.length : Int))) * (53 : Int))))).tdiv (64 : Int)))).toNat : Int))).tmod n), ()), ((bs, ((p + 1 : Nat) : Int), ()), (), ())) else none else none else none else none else none else none) r → Ev (fun k => F49 k bs (p : Int) n) r := by
  intro r h
  refine Ev.step 2 (fun k => F49_eq k _ _ _) ?_
  simp only [e1, e2]
  exact h
 by_cases h1 : n < 1
 ·refine ⟨0, ⟨Int.le_refl _, fun h => by omega, fun _ => rfl⟩, st ?_⟩
  simp only [decide_eq_true h1, if_true]
  exact Ev.now _
 ·have hn : (!(n == 0)) = true := by simp; omega
  by_cases h2 : bs.length = 0
  ·refine ⟨0, ⟨Int.le_refl _, fun h => by omega, fun _ => rfl⟩, st ?_⟩
   simp only [decide_eq_false h1, Bool.false_eq_true, if_false, h2, Int.ofNat_zero, beq_self_eq_true, if_true]
   exact Ev.now _
  ·have hl0 : ((bs.length : Int) == 0) = false := by rw [beq_eq_false_iff_ne]; omega
   by_cases h3 : p < bs.length
   ·obtain ⟨y, hy⟩ : ∃ y, bs[p]? = some y := ⟨_, List.getElem?_eq_getElem h3⟩
    have hy8 := hb.b8 y (List.mem_of_getElem? hy)
    have hr := tmod_range (n := n) hy8.1 (by omega)
    refine ⟨y.tmod n, ⟨hr.1, fun _ => hr.2, fun h => by omega⟩, st ?_⟩
    have ey : IntKind.i64.wrap y = y := wrap64 (by omega) (by omega)
    simp only [decide_eq_false h1, Bool.false_eq_true, if_false, hl0, lt_true h3, ge0, if_true, Int.toNat_natCast, hy, Option.bind_some, hn, ey]
    exact Ev.now _
   ·have hpos : (0 : Int) < (bs.length : Int) := by omega
    have t1 := tmod_range (x := (p : Int)) (n := (bs.length : Int)) (by omega) (by omega)
    have w7 : IntKind.i64.wrap ((p : Int) * 7) = (p : Int) * 7 := wrap64 (by omega) (by omega)
    have w73 : IntKind.i64.wrap ((p : Int) * 7 + 3) = (p : Int) * 7 + 3 := wrap64 (by omega) (by omega)
    have t2 := tmod_range (x := (p : Int) * 7 + 3) (n := (bs.length : Int)) (by omega) (by omega)
    obtain ⟨y, hy⟩ : ∃ y, bs[((p : Int).tmod (bs.length : Int)).toNat]? = some y := ⟨_, List.getElem?_eq_getElem (by omega)⟩
    obtain ⟨z, hz⟩ : ∃ z, bs[((((p : Int) * 7 + 3)).tmod (bs.length : Int)).toNat]? = some z := ⟨_, List.getElem?_eq_getElem (by omega)⟩
    have hy8 := hb.b8 y (List.mem_of_getElem? hy)
    have hz8 := hb.b8 z (List.mem_of_getElem? hz)
    have ey : IntKind.i64.wrap y = y := wrap64 (by omega) (by omega)
    have ez : IntKind.i64.wrap z = z := wrap64 (by omega) (by omega)
    have d0 : 0 ≤ (p : Int).tdiv (bs.length : Int) ∧ (p : Int).tdiv (bs.length : Int) ≤ (p : Int) := by
     rw [Int.tdiv_eq_ediv_of_nonneg (by omega)]
     exact ⟨Int.ediv_nonneg (by omega) (by omega), Int.ediv_le_self _ (by omega)⟩
    obtain ⟨d, hd⟩ : ∃ d, d = (p : Int).tdiv (bs.length : Int) := ⟨_, rfl⟩
    rw [← hd] at d0
    have w1 : IntKind.i64.wrap (y * 131) = y * 131 := wrap64 (by omega) (by omega)
    have w2 : IntKind.i64.wrap (z * 1117) = z * 1117 := wrap64 (by omega) (by omega)
    have w3 : IntKind.i64.wrap (y * 131 + z * 1117) = y * 131 + z * 1117 := wrap64 (by omega) (by omega)
    have w4 : IntKind.i64.wrap ((p : Int) * 29) = (p : Int) * 29 := wrap64 (by omega) (by omega)
    have w5 : IntKind.i64.wrap (y * 131 + z * 1117 + (p : Int) * 29) = y * 131 + z * 1117 + (p : Int) * 29 := wrap64 (by omega) (by omega)
    have w6 : IntKind.i64.wrap d = d := wrap64 (by omega) (by omega)
    have w8 : IntKind.i64.wrap (d * 53) = d * 53 := wrap64 (by omega) (by omega)
    obtain ⟨X, hX⟩ : ∃ X, X = y * 131 + z * 1117 + (p : Int) * 29 + d * 53 := ⟨_, rfl⟩
    have hX0 : 0 ≤ X ∧ X ≤ 1000000000000 := by omega
    have w9 : IntKind.i64.wrap X = X := wrap64 (by omega) (by omega)
    have q0 : 0 ≤ X.tdiv 64 ∧ X.tdiv 64 ≤ X := by
     rw [Int.tdiv_eq_ediv_of_nonneg (by omega)]
     omega
    have w10 : IntKind.i64.wrap (X.tdiv 64) = X.tdiv 64 := wrap64 (by omega) (by omega)
    have hx := xor_small (a := X) (b := X.tdiv 64) (by omega) (by omega) (by omega) (by omega)
    have hr := tmod_range (n := n) hx (by omega)
    refine ⟨_, ⟨hr.1, fun _ => hr.2, fun h => by omega⟩, st ?_⟩
    simp only [decide_eq_false h1, Bool.false_eq_true, if_false, hl0, lt_false (show bs.length ≤ p by omega), Bool.not_false, if_true, decide_eq_true t1.1, hy, Option.bind_some, w7, w73, decide_eq_true t2.1, hz, hn, ey, ez, w1, w2, w3, w4, w5, ← hd, w6, w8, ← hX, w9, w10]
    exact Ev.now _
theorem one_ev {bs : List Int} (hb : Rd bs) {p : Nat} (hp : p ≤ 1000000000) (l : List Int) (hl : 0 < l.length) : ∃ v ∈ l, Ev (fun k => F50 k bs (p : Int) l) ((v, ()), ((bs, ((p + 1 : Nat) : Int), ()), (), ())) := by
 obtain ⟨v, ⟨h0, h1, _⟩, h2⟩ := pick_ev hb hp (l.length : Int)
 have h1 := h1 (by omega)
 obtain ⟨y, hy⟩ : ∃ y, l[v.toNat]? = some y := ⟨_, List.getElem?_eq_getElem (by omega)⟩
 refine ⟨y, List.mem_of_getElem? hy, Ev.step 2 (fun k => F50_eq k _ _ _) (Ev.bind h2 ?_)⟩
 simp only [decide_eq_true h0, decide_eq_true h1, Bool.and_self, if_true, hy, Option.bind_some]
 exact Ev.now _
theorem of_ev {bs : List Int} (hb : Rd bs) {p : Nat} (hp : p ≤ 1000000000) (l : List ByteArray) (hl : 0 < l.length) (hl2 : l.length ≤ 1000) : ∃ v ∈ l, Ev (fun k => F35 k bs (p : Int) l) ((v, ()), ((bs, ((p + 1 : Nat) : Int), ()), (), ())) := by
 obtain ⟨v, ⟨h0, h1, _⟩, h2⟩ := pick_ev hb hp (l.length : Int)
 have h1 := h1 (by omega)
 obtain ⟨y, hy⟩ : ∃ y, l[v.toNat]? = some y := ⟨_, List.getElem?_eq_getElem (by omega)⟩
 refine ⟨y, List.mem_of_getElem? hy, Ev.step 2 (fun k => F35_eq k _ _ _) (Ev.bind h2 ?_)⟩
 simp only [decide_eq_true h0, decide_eq_true h1, Bool.and_self, if_true, hy, Option.bind_some]
 exact Ev.now _
theorem open_ev (code : List Int) (w : ∀ y ∈ code, 0 ≤ y ∧ y ≤ 255) : ∃ bs, Rd bs ∧ Ev (fun k => F33 k code) (((bs, 0, ()), ()), ((), ())) := by
 by_cases h : code.length > 2000
 ·refine ⟨code.take 2000, ⟨by simp; omega, fun y hy => w y (List.mem_of_mem_take hy)⟩, Ev.step 2 (fun k => F33_eq k _) ?_⟩
  simp only [decide_eq_true (show (code.length : Int) > 2000 by omega), if_true, show decide ((0 : Int) ≤ 2000) = true from rfl, decide_eq_true (show (2000 : Int) ≤ code.length by omega), Bool.and_self, slices0]
  exact Ev.step 1 (fun k => F33c3_eq k _) (Ev.now _)
 ·refine ⟨code, ⟨by omega, w⟩, Ev.step 2 (fun k => F33_eq k _) ?_⟩
  simp only [decide_eq_false (show ¬ (code.length : Int) > 2000 by omega), Bool.false_eq_true, if_false]
  exact Ev.step 1 (fun k => F33c3_eq k _) (Ev.now _)
theorem l1Dec_ev : ∀ n : Nat, n ≤ 1000000000000000000 → Ev (fun k => F79 k (n : Int)) ((⟨(Lib.decDigits n).toArray⟩, ()), ((), ())) := by
 intro n
 induction n using Nat.strongRecOn with
 | _ n ih =>
  intro hn
  have c1 : decide ((n : Int) < (-9223372036854775807 : Int)) = false := decide_eq_false (by omega)
  have c2 : decide ((n : Int) < 0) = false := decide_eq_false (by omega)
  refine Ev.step 2 (fun k => F79_eq k n) ?_
  simp only [c1, c2, Bool.false_eq_true, if_false]
  by_cases h : n < 10
  ·have c3 : decide ((n : Int) < 10) = true := decide_eq_true (by omega)
   rw [Lib.decDigits, dif_pos h]
   simp only [c3, if_true, bytesOf_digit h]
   exact Ev.now _
  ·have c3 : decide ((n : Int) < 10) = false := decide_eq_false (by omega)
   have e1 : IntKind.i64.wrap ((n : Int).tdiv 10) = ((n / 10 : Nat) : Int) := by
    rw [Int.tdiv_eq_ediv_of_nonneg (by omega), wrap64 (by omega) (by omega)]
    omega
   have e2 : (n : Int).tmod 10 = ((n % 10 : Nat) : Int) := by
    rw [Int.tmod_eq_emod_of_nonneg (by omega)]
    omega
   have hl := decDigits_len 18 (n / 10) (by omega)
   rw [Lib.decDigits, dif_neg h]
   simp only [c3, Bool.false_eq_true, if_false, e1, e2, bytesOf_digit (show n % 10 < 10 by omega)]
   refine Ev.bind (ih (n / 10) (by omega) (by omega)) ?_
   have hb : Nat.ble ((Lib.decDigits (n / 10)).length + [UInt8.ofNat (48 + n % 10)].length) 9223372036854775807 = true := Nat.ble_eq_true_of_le (by simp; omega)
   simp only [bytes_size, hb, if_true, bytes_append]
   exact Ev.now _
theorem l1Wide_ex {n : Nat} (hn : n ≤ 1000000) : ∃ s : ByteArray, s.size ≤ 100 ∧ Ev (fun k => F67 k (n : Int) 2) ((s, ()), ((), (), ())) := by
 have key : ∀ (m : Nat) (x : ByteArray), 2 ≤ x.size + m → x.size ≤ 50 → m ≤ 10 → ∃ s : ByteArray, s.size ≤ 100 ∧ Ev (fun k => F67c2 k 2 x) ((s, ()), ((), (), ())) := by
  intro m
  induction m with
  | zero =>
   intro x h1 h2 _
   refine ⟨x, by omega, Ev.step 1 (fun k => F67c2_eq k _ _) ?_⟩
   simp only [decide_eq_false (show ¬ (x.size : Int) < 2 by omega), Bool.false_eq_true, if_false]
   exact Ev.now _
  | succ m ih =>
   intro x h1 h2 h3
   by_cases hx : (x.size : Int) < 2
   ·have hs : ((⟨#[48]⟩ : ByteArray) ++ x).size = 1 + x.size := ByteArray.size_append
    obtain ⟨s, q1, q2⟩ := ih ((⟨#[48]⟩ : ByteArray) ++ x) (by omega) (by omega) (by omega)
    refine ⟨s, q1, Ev.step 1 (fun k => F67c2_eq k _ _) ?_⟩
    have hb : Nat.ble ((⟨#[48]⟩ : ByteArray).size + x.size) 9223372036854775807 = true := Nat.ble_eq_true_of_le (by have : (⟨#[48]⟩ : ByteArray).size = 1 := rfl; omega)
    simp only [decide_eq_true hx, if_true, hb]
    exact q2
   ·refine ⟨x, by omega, Ev.step 1 (fun k => F67c2_eq k _ _) ?_⟩
    simp only [decide_eq_false hx, Bool.false_eq_true, if_false]
    exact Ev.now _
 have hl := decDigits_len 18 n (by omega)
 obtain ⟨s, q1, q2⟩ := key 2 ⟨(Lib.decDigits n).toArray⟩ (by omega) (by rw [bytes_size]; omega) (by omega)
 exact ⟨s, q1, Ev.step 2 (fun k => F67_eq k _ _) (Ev.bind (l1Dec_ev n (by omega)) q2)⟩
theorem key_ev {bs : List Int} (hb : Rd bs) {p : Nat} (hp : p ≤ 100000000) : ∃ s : ByteArray, Ev (fun k => F36 k bs (p : Int)) ((s, ()), ((bs, ((p + 1 + 1 : Nat) : Int), ()), ())) := by
 obtain ⟨a, ha, h1⟩ := of_ev hb (p := p) (by omega) [(⟨#[97]⟩ : ByteArray), (⟨#[98]⟩ : ByteArray), (⟨#[99]⟩ : ByteArray), (⟨#[100]⟩ : ByteArray), (⟨#[101]⟩ : ByteArray), (⟨#[102]⟩ : ByteArray), (⟨#[103]⟩ : ByteArray), (⟨#[104]⟩ : ByteArray), (⟨#[107]⟩ : ByteArray), (⟨#[109]⟩ : ByteArray), (⟨#[112]⟩ : ByteArray), (⟨#[115]⟩ : ByteArray), (⟨#[119]⟩ : ByteArray), (⟨#[122]⟩ : ByteArray), (⟨#[97, 97]⟩ : ByteArray), (⟨#[97, 98]⟩ : ByteArray), (⟨#[98, 97]⟩ : ByteArray), (⟨#[0]⟩ : ByteArray), (⟨#[255]⟩ : ByteArray)] (by decide) (by decide)
 obtain ⟨b, hb2, h2⟩ := of_ev hb (p := p + 1) (by omega) [(⟨#[]⟩ : ByteArray), (⟨#[]⟩ : ByteArray), (⟨#[49]⟩ : ByteArray), (⟨#[53]⟩ : ByteArray), (⟨#[57]⟩ : ByteArray)] (by decide) (by decide)
 have sa : a.size ≤ 2 := by
  simp only [List.mem_cons, List.not_mem_nil, or_false] at ha
  rcases ha with rfl | rfl | rfl | rfl | rfl | rfl | rfl | rfl | rfl | rfl | rfl | rfl | rfl | rfl | rfl | rfl | rfl | rfl | rfl <;> decide
 have sb : b.size ≤ 2 := by
  simp only [List.mem_cons, List.not_mem_nil, or_false] at hb2
  rcases hb2 with rfl | rfl | rfl | rfl | rfl <;> decide
 refine ⟨a ++ b, Ev.step 2 (fun k => F36_eq k _ _) (Ev.bind h1 (Ev.bind h2 ?_))⟩
 have hs : Nat.ble (a.size + b.size) 9223372036854775807 = true := Nat.ble_eq_true_of_le (by omega)
 simp only [hs, if_true]
 exact Ev.now _
abbrev rdSc : List Sc := [.v (.sl (.int .u8)), .v (.int .i64)]
def RdAt (w : World) (b : Nat) (bs : List Int) (p : Nat) : Prop := ∃ us e, w.heap[b]? = some (.cells us e (0, 0)) ∧ SReps w (fun x => x < w.heap.size ∧ x ≠ b) rdSc (bs, (p : Int), ()) us.toList []
structure Bt (b : Nat) (w w' : World) : Prop where
 os : w'.os = w.os
 tape : w'.tape = w.tape
 output : w'.output = w.output
 size : w.heap.size ≤ w'.heap.size
 block : ∀ k, k < w.heap.size → k ≠ b → w'.heap[k]? = w.heap[k]?
theorem sreps_nil {w : World} {Z : Nat → Prop} {x : Dats rdSc} {us : List Value} {f : List Nat} (h : SReps w Z rdSc x us f) : f = [] := by
 match us, h with
 | [u, v], ⟨f1, g1, e1, ⟨_, h1⟩, f2, g2, e2, ⟨_, h2⟩, h3⟩ =>
  have h3 : g2 = [] := h3
  subst h1 h2 h3
  rw [e1, e2]
  rfl
theorem RdAt.lt {w : World} {b : Nat} {bs : List Int} {p : Nat} (h : RdAt w b bs p) : b < w.heap.size := by
 obtain ⟨us, e, h1, _⟩ := h
 exact (Array.getElem?_eq_some_iff.1 h1).1
theorem rd_back {w w' : World} {Z' : Nat → Prop} {b : Nat} {bs : List Int} {q : Nat} {ss : List Sh} {post : Post ss} {vs : List Value} {pfp rfp fp : List Nat}
  (h : PostRep w w' Z' (.box rdSc :: ss) ((bs, (q : Int), ()), post) (.pointer (some ⟨b, 0, none⟩) :: vs) pfp) (hz : ∀ x ∈ rfp ++ pfp, ¬ Z' x ∧ (x ∈ fp ∨ w.heap.size ≤ x)) (hZ' : ∀ x, Z' x → x < w'.heap.size ∧ (x < w.heap.size ∧ x ≠ b ∨ x ∈ fp ∨ w.heap.size ≤ x)) : RdAt w' b bs q := by
 obtain ⟨f, g, e, ⟨b', us0, e0, us, e', f', e1, _, _, h4, h5, e6⟩, _⟩ := h
 injection e1 with e1
 injection e1 with e1
 injection e1 with e1
 subst e1
 have hf := sreps_nil h5
 subst hf
 refine ⟨us, e', h4, SReps.weaken (fun x hx => ⟨(hZ' x hx).1, fun hxb => ?_⟩) h5⟩
 rw [hxb] at hx
 exact (hz b (by rw [e, e6]; simp)).1 hx
theorem ask_pick {w : World} {b : Nat} {bs : List Int} {p : Nat} (hb : Rd bs) (hp : p ≤ 100000000) (h : RdAt w b bs p) (n : Int) :
  Calls Try.prog 49 #[.pointer (some ⟨b, 0, none⟩), .int .i64 n] w fun e w' => ∃ v : Int, e = .returned (.int .i64 v) ∧ (0 ≤ v ∧ (1 ≤ n → v < n)) ∧ RdAt w' b bs (p + 1) ∧ Bt b w w' := by
 obtain ⟨v, hv, hev⟩ := pick_ev hb (p := p) (by omega) n
 obtain ⟨k, hk⟩ := hev.get
 have hlt := h.lt
 obtain ⟨us, e, h1, h2⟩ := h
 refine ((told k 49 ((bs, (p : Int), ()), n, ()) ((v, ()), ((bs, ((p + 1 : Nat) : Int), ()), (), ())) hk) w (fun x => x < w.heap.size ∧ x ≠ b) [.pointer (some ⟨b, 0, none⟩), .int .i64 n] [b] ⟨[b], [], rfl, ⟨b, us, e, [], rfl, h1, h2, rfl⟩, [], [], rfl, ⟨rfl, rfl⟩, rfl⟩ (by simp) (fun x hx => by obtain rfl := List.mem_singleton.1 hx; exact ⟨fun h => h.2 rfl, hlt⟩) (fun x hx => hx.1) (glT _ _)).mono ?_
 rintro e w' ⟨rvs, Z', rfp, pfp, rfl, hs, hP, hnd, hf, _, hZ', hk⟩
 refine ⟨v, by rw [res_intT hs], ⟨hv.1, hv.2.1⟩, rd_back hP hf hZ', hk.os, hk.tape, hk.output, hk.size, fun x hx hne => hk.block x hx ?_⟩
 rintro (h | h)
 ·exact hne (List.mem_singleton.1 h)
 ·omega
theorem ask_key {w : World} {b : Nat} {bs : List Int} {p : Nat} (hb : Rd bs) (hp : p ≤ 100000000) (h : RdAt w b bs p) :
  Calls Try.prog 36 #[.pointer (some ⟨b, 0, none⟩)] w fun e w' => ∃ s : ByteArray, e = .returned (.string s) ∧ RdAt w' b bs (p + 1 + 1) ∧ Bt b w w' := by
 obtain ⟨v, hev⟩ := key_ev hb (p := p) hp
 obtain ⟨k, hk⟩ := hev.get
 have hlt := h.lt
 obtain ⟨us, e, h1, h2⟩ := h
 refine ((told k 36 ((bs, (p : Int), ()), ()) ((v, ()), ((bs, ((p + 1 + 1 : Nat) : Int), ()), ())) hk) w (fun x => x < w.heap.size ∧ x ≠ b) [.pointer (some ⟨b, 0, none⟩)] [b] ⟨[b], [], rfl, ⟨b, us, e, [], rfl, h1, h2, rfl⟩, rfl⟩ (by simp) (fun x hx => by obtain rfl := List.mem_singleton.1 hx; exact ⟨fun h => h.2 rfl, hlt⟩) (fun x hx => hx.1) (glT _ _)).mono ?_
 rintro e w' ⟨rvs, Z', rfp, pfp, rfl, hs, hP, hnd, hf, _, hZ', hk⟩
 refine ⟨v, ?_, rd_back hP hf hZ', hk.os, hk.tape, hk.output, hk.size, fun x hx hne => hk.block x hx ?_⟩
 ·match rvs, hs with
  | [u], ⟨_, _, _, ⟨hu, _⟩, _⟩ => rw [(List.cons.inj hu).1]; rfl
 rintro (h | h)
 ·exact hne (List.mem_singleton.1 h)
 ·omega
theorem sreps_ext {w w' : World} {Z Z' : Nat → Prop} (hh : ∀ b, Z b → w'.heap[b]? = w.heap[b]?) (hz : ∀ b, Z b → Z' b) {x : Dats rdSc} {us : List Value} (h : SReps w Z rdSc x us []) : SReps w' Z' rdSc x us [] := by
 match us, h with
 | [u, v], ⟨f1, g1, e1, ⟨r1, h1⟩, f2, g2, e2, ⟨r2, h2⟩, h3⟩ => exact ⟨f1, g1, e1, ⟨r1.ext hh hz, h1⟩, f2, g2, e2, ⟨r2.ext hh hz, h2⟩, h3⟩
theorem RdAt.ext {W w : World} {b : Nat} {bs : List Int} {p : Nat} (h : RdAt W b bs p) (m : Below W.heap.size W w) : ∃ us e, w.heap[b]? = some (.cells us e (0, 0)) ∧ SReps w (fun x => x < W.heap.size ∧ x ≠ b) rdSc (bs, (p : Int), ()) us.toList [] := by
 have hlt := h.lt
 obtain ⟨us, e, h1, h2⟩ := h
 exact ⟨us, e, (m.block b hlt).trans h1, sreps_ext (fun x hx => m.block x hx.1) (fun x hx => hx) h2⟩
theorem RdAt.below {W w : World} {b : Nat} {bs : List Int} {p : Nat} (h : RdAt W b bs p) (m : Below W.heap.size W w) : RdAt w b bs p := by
 obtain ⟨us, e, h1, h2⟩ := h.ext m
 exact ⟨us, e, h1, h2.weaken (fun x hx => ⟨Nat.lt_of_lt_of_le hx.1 m.size, hx.2⟩)⟩
theorem ask_one {W w : World} {b : Nat} {bs : List Int} {p : Nat} {u : Value} {l : List Int} (hb : Rd bs) (hp : p ≤ 100000000) (h : RdAt W b bs p) (m : Below W.heap.size W w) (hl : 0 < l.length) (hr : RowIn w W.heap.size 3 u (ints l)) :
  Calls Try.prog 50 #[.pointer (some ⟨b, 0, none⟩), u] w fun e w' => ∃ v : Int, e = .returned (.int .i64 v) ∧ v ∈ l ∧ RdAt w' b bs (p + 1) ∧ Bt b W w' := by
 obtain ⟨v, hv, hev⟩ := one_ev hb (p := p) (by omega) l hl
 obtain ⟨k, hk⟩ := hev.get
 have hlt := h.lt
 obtain ⟨us, e, h1, h2⟩ := h.ext m
 have hu : ∀ x ∈ (blk u).toList, W.heap.size ≤ x ∧ x < w.heap.size := fun x hx => hr.blk (by simpa using hx)
 have hsz := m.size
 refine ((told k 50 ((bs, (p : Int), ()), l, ()) ((v, ()), ((bs, ((p + 1 : Nat) : Int), ()), (), ())) hk) w (fun x => x < W.heap.size ∧ x ≠ b) [.pointer (some ⟨b, 0, none⟩), u] (b :: (blk u).toList) ⟨[b], (blk u).toList, rfl, ⟨b, us, e, [], rfl, h1, h2, rfl⟩, (blk u).toList, [], by simp, ⟨(RowIn.row (e := .int .i64) hr (fun _ => rfl) rfl).1, (RowIn.row (Z := fun _ => True) (e := .int .i64) hr (fun _ => rfl) rfl).2, rfl⟩, rfl⟩ ?_ ?_ (fun x hx => Nat.lt_of_lt_of_le hx.1 hsz) (glT _ _)).mono ?_
 ·cases hx : blk u with
  | none => simp
  | some x => have := (hu x (by simp [hx])).1; simp; omega
 ·intro x hx
  rcases List.mem_cons.1 hx with rfl | hx
  ·exact ⟨fun h => h.2 rfl, by omega⟩
  ·have := hu x hx
   exact ⟨fun h => by omega, this.2⟩
 rintro e w' ⟨rvs, Z', rfp, pfp, rfl, hs, hP, hnd, hf, _, hZ', hk⟩
 refine ⟨v, by rw [res_intT hs], hv, rd_back hP hf (fun x hx => ⟨(hZ' x hx).1, (hZ' x hx).2.imp (fun h => ⟨by omega, h.2⟩) id⟩), hk.os.trans m.os, hk.tape.trans m.tape, hk.output.trans m.output, Nat.le_trans m.size hk.size, fun x hx hne => (hk.block x (by omega) ?_).trans (m.block x hx)⟩
 rintro (h | h)
 ·rcases List.mem_cons.1 h with h | h
  ·exact hne h
  ·have := (hu x h).1; omega
 ·omega
theorem ask_of {W w : World} {b : Nat} {bs : List Int} {p : Nat} {u : Value} {l : List ByteArray} (hb : Rd bs) (hp : p ≤ 100000000) (h : RdAt W b bs p) (m : Below W.heap.size W w) (hl : 0 < l.length) (hl2 : l.length ≤ 1000) (hr : RowIn w W.heap.size 9 u (strs l)) :
  Calls Try.prog 35 #[.pointer (some ⟨b, 0, none⟩), u] w fun e w' => ∃ v : ByteArray, e = .returned (.string v) ∧ v ∈ l ∧ RdAt w' b bs (p + 1) ∧ Bt b W w' := by
 obtain ⟨v, hv, hev⟩ := of_ev hb (p := p) (by omega) l hl hl2
 obtain ⟨k, hk⟩ := hev.get
 have hlt := h.lt
 obtain ⟨us, e, h1, h2⟩ := h.ext m
 have hu : ∀ x ∈ (blk u).toList, W.heap.size ≤ x ∧ x < w.heap.size := fun x hx => hr.blk (by simpa using hx)
 have hsz := m.size
 refine ((told k 35 ((bs, (p : Int), ()), l, ()) ((v, ()), ((bs, ((p + 1 : Nat) : Int), ()), (), ())) hk) w (fun x => x < W.heap.size ∧ x ≠ b) [.pointer (some ⟨b, 0, none⟩), u] (b :: (blk u).toList) ⟨[b], (blk u).toList, rfl, ⟨b, us, e, [], rfl, h1, h2, rfl⟩, (blk u).toList, [], by simp, ⟨(RowIn.row (e := .str) hr (fun _ => rfl) rfl).1, (RowIn.row (Z := fun _ => True) (e := .str) hr (fun _ => rfl) rfl).2, rfl⟩, rfl⟩ ?_ ?_ (fun x hx => Nat.lt_of_lt_of_le hx.1 hsz) (glT _ _)).mono ?_
 ·cases hx : blk u with
  | none => simp
  | some x => have := (hu x (by simp [hx])).1; simp; omega
 ·intro x hx
  rcases List.mem_cons.1 hx with rfl | hx
  ·exact ⟨fun h => h.2 rfl, by omega⟩
  ·have := hu x hx
   exact ⟨fun h => by omega, this.2⟩
 rintro e w' ⟨rvs, Z', rfp, pfp, rfl, hs, hP, hnd, hf, _, hZ', hk⟩
 refine ⟨v, ?_, hv, rd_back hP hf (fun x hx => ⟨(hZ' x hx).1, (hZ' x hx).2.imp (fun h => ⟨by omega, h.2⟩) id⟩), hk.os.trans m.os, hk.tape.trans m.tape, hk.output.trans m.output, Nat.le_trans m.size hk.size, fun x hx hne => (hk.block x (by omega) ?_).trans (m.block x hx)⟩
 ·match rvs, hs with
  | [u], ⟨_, _, _, ⟨hu, _⟩, _⟩ => rw [(List.cons.inj hu).1]; rfl
 rintro (h | h)
 ·rcases List.mem_cons.1 h with h | h
  ·exact hne h
  ·have := (hu x h).1; omega
 ·omega
theorem ask_wide {w : World} {n : Nat} (hn : n ≤ 1000000) : Calls Try.prog 67 #[.int .i64 (n : Int), .int .i64 2] w fun e w' => ∃ s : ByteArray, e = .returned (.string s) ∧ s.size ≤ 100 ∧ Below w.heap.size w w' := by
 obtain ⟨s, hs, hev⟩ := l1Wide_ex hn
 obtain ⟨k, hk⟩ := hev.get
 refine (ask_read (told k 67 ((n : Int), (2 : Int), ()) ((s, ()), ((), (), ())) hk) (args := [.int .i64 (n : Int), .int .i64 2]) ⟨[], [], rfl, ⟨rfl, rfl⟩, [], [], rfl, ⟨rfl, rfl⟩, rfl⟩ (glT _ _)).mono ?_
 rintro e w' ⟨rvs, rfp, rfl, hs2, _, _, hb⟩
 refine ⟨s, ?_, hs, hb⟩
 match rvs, hs2 with
 | [u], ⟨_, _, _, ⟨hu, _⟩, _⟩ => rw [(List.cons.inj hu).1]; rfl
end Go.Proofs.Ytcolgghllacloaa.R
end

section
namespace Go.Proofs.Ytcolgghllacloaa.Tm
open Go.Rf (RowIn strs ints rep nodeT ownL blk Src IsLow IsUp)
open Go.Proofs.Ytcolgghllacloaa.R (okLen okNode Rd RdAt Bt ask_pick ask_key ask_one ask_of ask_wide)
open Go.RowKit Go.Proofs.Ytcolgghllacloaa.Q Go.Proofs.YtcolgghllacloaaW.PrintWords Go.Proofs.YtcolgghllacloaaW.PrintLast Go.Proofs.YtcolgghllacloaaW.PrintMore
theorem addr_add (b off j : Nat) : (⟨b, off, none⟩ : Addr).add j = ⟨b, off + j, none⟩ := by unfold Addr.add; split <;> simp_all
theorem bt_trans {b : Nat} {w w' w'' : World} (h : Bt b w w') (h' : Bt b w' w'') : Bt b w w'' := ⟨h'.os.trans h.os, h'.tape.trans h.tape, h'.output.trans h.output, Nat.le_trans h.size h'.size, fun k hk hne => (h'.block k (Nat.lt_of_lt_of_le hk h.size) hne).trans (h.block k hk hne)⟩
theorem bt_of {b : Nat} {w w' : World} (h : Below w.heap.size w w') : Bt b w w' := ⟨h.os, h.tape, h.output, h.size, fun k hk _ => h.block k hk⟩
theorem But.bt {b : Nat} {w0 w w' : World} (h : But b w0 w) (hb : Bt b w w') : But b w0 w' := ⟨Nat.le_trans h.size hb.size, fun a h1 h2 => (World.cell?_of_block (hb.block a.block (by have := h.size; omega) h1)).trans (h.cell a h1 h2)⟩
theorem bt_but {b : Nat} {w w' : World} (h : Bt b w w') : But b w w' := (But.refl b w).bt h
theorem CellsAt.bt {w w' : World} {b b2 : Nat} {t : TypeId} {cs : Array Value} (h : CellsAt w b2 t cs) (hb : Bt b w w') (hne : b2 ≠ b) : CellsAt w' b2 t cs := (hb.block b2 h.lt hne).trans h
theorem TI.bt {w w' : World} {b B g : Nat} {N : List Nd} (h : TI w B g N) (hb : Bt b w w') (hlt : b < B) : TI w' B g N := by
 obtain ⟨cur, h1, h2, h3, h4⟩ := h
 refine ⟨cur, h1.bt hb (by omega), h2, h3, fun i n hn => ?_⟩
 obtain ⟨uK, uV, uI, e0, e1, e2, e3, r1, r2, r3⟩ := h4 i n hn
 have hk : ∀ {id : Nat} {v : Value} {l : List Value}, RowIn w B id v l → RowIn w' B id v l := fun r => r.keep fun x hx => hb.block x (r.blk hx).2 (by have := (r.blk hx).1; omega)
 exact ⟨uK, uV, uI, e0, e1, e2, e3, hk r1, hk r2, hk r3⟩
theorem TreeV.bt {w w' : World} {b B : Nat} {v : Value} (h : TreeV w B v) (hb : Bt b w w') (hlt : b < B) : TreeV w' B v := by
 obtain ⟨rt, g, c, S, lv, e, hc, ⟨N, h1, h2⟩, hw⟩ := h
 exact ⟨rt, g, c, S, lv, e, hc, ⟨N, h1.bt hb hlt, h2⟩, hw⟩
def TBox (w : World) (B b : Nat) : Prop := ∃ v0 v1, CellsAt w b 30 #[v0, v1] ∧ v0.oneCell' = true ∧ v1.oneCell' = true ∧ TreeV w B (.agg #[v0, v1])
structure LT (wz : World) (b0 : Nat) (bs : List Int) (b2 b3 P : Nat) (w : World) : Prop where
 bt : Bt b0 wz w
 rd : ∃ p, p ≤ P ∧ RdAt w b0 bs p
 c2 : CellsAt w b2 30 #[.int .i64 0, .slice none 0 0]
 c3 : TBox w wz.heap.size b3
 n0 : b0 < wz.heap.size
 n2 : wz.heap.size ≤ b2
 n3 : wz.heap.size ≤ b3
 ne : b2 ≠ b3
section
variable {wz w w' : World} {b0 b2 b3 P P' : Nat} {bs : List Int}
theorem LT.below (h : LT wz b0 bs b2 b3 P w) (m : Below w.heap.size w w') : LT wz b0 bs b2 b3 P w' := by
 obtain ⟨p, h1, h2⟩ := h.rd
 obtain ⟨v0, v1, k1, k0, k2, k3⟩ := h.c3
 exact ⟨bt_trans h.bt (bt_of m), ⟨p, h1, h2.below m⟩, h.c2.below m h.c2.lt, ⟨v0, v1, k1.below m k1.lt, k0, k2, k3.below m⟩, h.n0, h.n2, h.n3, h.ne⟩
theorem LT.draw (h : LT wz b0 bs b2 b3 P w) (hb : Bt b0 w w') {p : Nat} (hr : RdAt w' b0 bs p) (hp : p ≤ P') : LT wz b0 bs b2 b3 P' w' := by
 obtain ⟨v0, v1, k1, k0, k2, k3⟩ := h.c3
 have := h.n0; have := h.n2; have := h.n3
 exact ⟨bt_trans h.bt hb, ⟨p, hp, hr⟩, h.c2.bt hb (by omega), ⟨v0, v1, k1.bt hb (by omega), k0, k2, k3.bt hb h.n0⟩, h.n0, h.n2, h.n3, h.ne⟩
theorem LT.mono (h : LT wz b0 bs b2 b3 P w) (hP : P ≤ P') : LT wz b0 bs b2 b3 P' w := by
 obtain ⟨p, h1, h2⟩ := h.rd
 exact ⟨h.bt, ⟨p, Nat.le_trans h1 hP, h2⟩, h.c2, h.c3, h.n0, h.n2, h.n3, h.ne⟩
theorem TreeV.one {w : World} {B : Nat} {v : Value} (h : TreeV w B v) : ∃ v0 v1, v = .agg #[v0, v1] ∧ v0.oneCell' = true ∧ v1.oneCell' = true := by
 obtain ⟨rt, g, c, S, lv, rfl, _⟩ := h
 exact ⟨_, _, rfl, rfl, rfl⟩
theorem tbox_set {B b : Nat} {t0 t1 : Value} {cs0 : Array Value} (hc : CellsAt w b 30 #[t0, t1]) {v0 v1 : Value} (h0 : v0.oneCell' = true) (h1 : v1.oneCell' = true) (hv : TreeV w B (.agg #[v0, v1])) : TBox ((w.setCell ⟨b, 0, none⟩ v0).setCell ⟨b, 1, none⟩ v1) B b := by
 obtain ⟨rt, g, c, S, lv, e, hcc, hT, hw⟩ := hv
 exact ⟨v0, v1, hc.set2 v0 v1, h0, h1, rt, g, c, S, lv, e, hcc, hT.set2 hc v0 v1, hw⟩
theorem rd_but {b p : Nat} {t : TypeId} {cs : Array Value} (h : RdAt w b0 bs p) (hc : CellsAt w b t cs) (hn : ∀ (j : Nat) x, cs[j]? ≠ some (.int .u8 x)) (hne : b ≠ b0) (hk : ∀ k, k ≠ b → w'.heap[k]? = w.heap[k]?) (hs : w.heap.size ≤ w'.heap.size) : RdAt w' b0 bs p := by
 obtain ⟨us, e, h1, h2⟩ := h
 refine ⟨us, e, (hk b0 (Ne.symm hne)).trans h1, ?_⟩
 match us, h2 with
 | ⟨[u1, u2]⟩, ⟨f1, g1, e1, ⟨r1, q1⟩, f2, g2, e2, ⟨r2, q2⟩, q3⟩ =>
  refine ⟨f1, g1, e1, ⟨?_, q1⟩, f2, g2, e2, ⟨r2, q2⟩, q3⟩
  obtain ⟨A, c, cs', e4, hlc, hreps, hcell⟩ := r1
  have hu := Go.Rf.reps_map (e := .int .u8) (f := Value.int .u8) (fun x c h => h) hreps
  refine ⟨A, c, cs', e4, hlc, by rw [hu]; exact Go.Rf.reps_of_map (e := .int .u8) (f := Value.int .u8) (fun _ => rfl) bs, fun j u hj => ?_⟩
  obtain ⟨a, k1, k2, k3, k4⟩ := hcell j u hj
  refine ⟨a, k1, k2, ⟨Nat.lt_of_lt_of_le k3.1 hs, k3.2⟩, ?_⟩
  have hab : a.block ≠ b := fun e => by
   obtain ⟨blk', off, sp⟩ := a
   simp only at k2 e
   subst k2 e
   rw [addr_add, hc.cell] at k4
   rw [hu, List.getElem?_map] at hj
   obtain ⟨x, _, hx⟩ := Option.map_eq_some_iff.1 hj
   rw [← hx] at k4
   exact hn _ x k4
  exact (World.cell?_of_block (by rw [Go.Rf.add_block]; exact hk _ hab)).trans k4
theorem rd_store {b p j : Nat} {t : TypeId} {cs : Array Value} {u : Value} (h : RdAt w b0 bs p) (hc : CellsAt w b t cs) (hn : ∀ (j : Nat) x, cs[j]? ≠ some (.int .u8 x)) (hne : b ≠ b0) : RdAt (w.setCell ⟨b, j, none⟩ u) b0 bs p := rd_but h hc hn hne (fun k hk => Below.heap_setCell _ _ _ _ hk) (by simp)
theorem TreeV.nou8 {w : World} {B : Nat} {v0 v1 : Value} (h : TreeV w B (.agg #[v0, v1])) : (∀ x, v0 ≠ .int .u8 x) ∧ ∀ x, v1 ≠ .int .u8 x := by
 obtain ⟨rt, g, c, S, lv, e, _⟩ := h
 injection e with e
 have e := congrArg Array.toList e
 simp only [List.cons.injEq, and_true] at e
 obtain ⟨rfl, rfl⟩ := e
 exact ⟨fun x h => (by injection h with h; cases h), fun x h => (by cases h)⟩
theorem LT.store (h : LT wz b0 bs b2 b3 P w) {v0 v1 : Value} (h0 : v0.oneCell' = true) (h1 : v1.oneCell' = true) (hv : TreeV w wz.heap.size (.agg #[v0, v1])) : LT wz b0 bs b2 b3 P ((w.setCell ⟨b3, 0, none⟩ v0).setCell ⟨b3, 1, none⟩ v1) := by
 obtain ⟨p, q1, q2⟩ := h.rd
 obtain ⟨t0, t1, k1, _, _, kt⟩ := h.c3
 obtain ⟨n0, n1⟩ := kt.nou8
 obtain ⟨m0, m1⟩ := hv.nou8
 have hb := h.bt
 have := h.n0; have := h.n2; have := h.n3; have := h.ne
 have two : ∀ {a b : Value}, (∀ x, a ≠ .int .u8 x) → (∀ x, b ≠ .int .u8 x) → ∀ (j : Nat) x, (#[a, b] : Array Value)[j]? ≠ some (.int .u8 x) := fun ha hb j x => by
  match j with
  | 0 => simpa using ha x
  | 1 => simpa using hb x
  | j + 2 => simp
 refine ⟨⟨hb.os, hb.tape, hb.output, by have := hb.size; simpa using this, fun k hk hne => ?_⟩, ⟨p, q1, rd_store (rd_store q2 k1 (two n0 n1) (by omega)) (k1.set 0 v0) (two m0 n1) (by omega)⟩, (h.c2.other (by omega) _).other (by omega) _, tbox_set (cs0 := #[]) k1 h0 h1 hv, h.n0, h.n2, h.n3, h.ne⟩
 rw [Below.heap_setCell _ _ _ _ (by show k ≠ b3; omega), Below.heap_setCell _ _ _ _ (by show k ≠ b3; omega)]
 exact hb.block k hk hne
end
section
variable {w : World} {b0 p : Nat} {bs : List Int} {o : Oper} {L : List (Nat × Value)}
theorem c_pick (hb : Rd bs) (hp : p ≤ 100000000) (h : RdAt w b0 bs p) (n : Int) : Calls Try.prog 49 #[.pointer (some ⟨b0, 0, none⟩), .int .i64 n] w (Ans fun u w' => ∃ v : Int, u = .int .i64 v ∧ 0 ≤ v ∧ (1 ≤ n → v < n) ∧ RdAt w' b0 bs (p + 1) ∧ Bt b0 w w') := by
 refine (ask_pick hb hp h n).mono ?_
 rintro e w' ⟨v, rfl, ⟨h1, h2⟩, h3, h4⟩
 exact ⟨_, rfl, v, rfl, h1, h2, h3, h4⟩
theorem c_key (hb : Rd bs) (hp : p ≤ 100000000) (h : RdAt w b0 bs p) : Calls Try.prog 36 #[.pointer (some ⟨b0, 0, none⟩)] w (Ans fun u w' => ∃ s : ByteArray, u = .string s ∧ RdAt w' b0 bs (p + 1 + 1) ∧ Bt b0 w w') := by
 refine (ask_key hb hp h).mono ?_
 rintro e w' ⟨v, rfl, h3, h4⟩
 exact ⟨_, rfl, v, rfl, h3, h4⟩
theorem c_one {W : World} {u : Value} {l : List Int} (hb : Rd bs) (hp : p ≤ 100000000) (h : RdAt W b0 bs p) (m : Below W.heap.size W w) (hl : 0 < l.length) (hr : RowIn w W.heap.size 3 u (ints l)) : Calls Try.prog 50 #[.pointer (some ⟨b0, 0, none⟩), u] w (Ans fun u w' => ∃ v : Int, u = .int .i64 v ∧ v ∈ l ∧ RdAt w' b0 bs (p + 1) ∧ Bt b0 W w') := by
 refine (ask_one hb hp h m hl hr).mono ?_
 rintro e w' ⟨v, rfl, h1, h3, h4⟩
 exact ⟨_, rfl, v, rfl, h1, h3, h4⟩
theorem c_of {W : World} {u : Value} {l : List ByteArray} (hb : Rd bs) (hp : p ≤ 100000000) (h : RdAt W b0 bs p) (m : Below W.heap.size W w) (hl : 0 < l.length) (hl2 : l.length ≤ 1000) (hr : RowIn w W.heap.size 9 u (strs l)) : Calls Try.prog 35 #[.pointer (some ⟨b0, 0, none⟩), u] w (Ans fun u w' => ∃ v : ByteArray, u = .string v ∧ v ∈ l ∧ RdAt w' b0 bs (p + 1) ∧ Bt b0 W w') := by
 refine (ask_of hb hp h m hl hl2 hr).mono ?_
 rintro e w' ⟨v, rfl, h1, h3, h4⟩
 exact ⟨_, rfl, v, rfl, h1, h3, h4⟩
theorem c_wide {n : Nat} (hn : n ≤ 1000000) : Calls Try.prog 67 #[.int .i64 (n : Int), .int .i64 2] w (Ans fun u w' => ∃ s : ByteArray, u = .string s ∧ s.size ≤ 100 ∧ Below w.heap.size w w') := by
 refine (ask_wide hn).mono ?_
 rintro e w' ⟨v, rfl, h1, h3⟩
 exact ⟨_, rfl, v, rfl, h1, h3⟩
theorem lit_ints (vals : List Int) {n : Nat} {parts : Array (Nat × Operand)} (ho : o.op = .buildSlice 65 n parts) (hrun : ∀ (a : Act) (w : World), (Instr.buildSlice 65 n (parts.map fun (i, x) => (i, a.eval x))).run Try.prog w = .ok (.slice (some ⟨w.heap.size, 0, none⟩) n n) (w.alloc (.cells (ints vals).toArray 3))) (hn : vals.length = n) (hs : n ≤ 1000) :
  WY Try.prog o L w fun v w' => RowIn w' w.heap.size 3 v (ints vals) ∧ Below w.heap.size w w' := wy_value fun a k hT => by
 have hlen : (ints vals).length = n := (List.length_map _).trans hn
 refine ⟨.slice (some ⟨w.heap.size, 0, none⟩) n n, w.alloc (.cells (ints vals).toArray 3), ?_, .inr ⟨w.heap.size, n, (ints vals).toArray, by rw [hlen], Nat.le_refl _, CellsAt.new w _ _, by omega, by unfold maxLen; omega, by rw [List.size_toArray]; omega, by rw [List.toList_toArray, List.take_length]⟩, (Below.refl _ w).alloc (Nat.le_refl _) _⟩
 simp only [execOp, ho, Sem.run_bind, hrun]
 rfl
theorem lit_strs (vals : List ByteArray) {n : Nat} {parts : Array (Nat × Operand)} (ho : o.op = .buildSlice 62 n parts) (hrun : ∀ (a : Act) (k : Nat) (w : World), Tm a k L → (Instr.buildSlice 62 n (parts.map fun (i, x) => (i, a.eval x))).run Try.prog w = .ok (.slice (some ⟨w.heap.size, 0, none⟩) n n) (w.alloc (.cells (strs vals).toArray 9))) (hn : vals.length = n) (hs : n ≤ 1000) :
  WY Try.prog o L w fun v w' => RowIn w' w.heap.size 9 v (strs vals) ∧ Below w.heap.size w w' := wy_value fun a k hT => by
 have hlen : (strs vals).length = n := (List.length_map _).trans hn
 refine ⟨.slice (some ⟨w.heap.size, 0, none⟩) n n, w.alloc (.cells (strs vals).toArray 9), ?_, .inr ⟨w.heap.size, n, (strs vals).toArray, by rw [hlen], Nat.le_refl _, CellsAt.new w _ _, by omega, by unfold maxLen; omega, by rw [List.size_toArray]; omega, by rw [List.toList_toArray, List.take_length]⟩, (Below.refl _ w).alloc (Nat.le_refl _) _⟩
 simp only [execOp, ho, Sem.run_bind, hrun a k w hT]
 rfl
end
end Go.Proofs.Ytcolgghllacloaa.Tm
end

section
namespace Go.Proofs.Ytcolgghllacloaa.Tm
open Go.Rf (RowIn strs ints rep nodeT ownL blk Src IsLow IsUp)
open Go.Proofs.Ytcolgghllacloaa.R (okLen okNode Rd RdAt Bt ask_pick ask_key ask_one ask_of ask_wide)
open Go.RowKit Go.Proofs.Ytcolgghllacloaa.Q Go.Proofs.YtcolgghllacloaaW.PrintWords Go.Proofs.YtcolgghllacloaaW.PrintLast Go.Proofs.YtcolgghllacloaaW.PrintMore
theorem wf_new : WF ((leaf0 :: List.replicate 18 nd0).map sk) (fun _ => 0) 0 x0 := by
 have e : (leaf0 :: List.replicate 18 nd0).map sk = (true, 0, 0, []) :: List.replicate 18 zS := rfl
 have at0 : ∀ (i : Nat) (s : Sk), (((true, 0, 0, []) : Sk) :: List.replicate 18 zS)[i]? = some s → (i = 0 ∧ s = (true, 0, 0, [])) ∨ s = zS := fun i s h => by
  cases i with
  | zero => exact .inl ⟨rfl, by simpa using h.symm⟩
  | succ i =>
   rw [List.getElem?_cons_succ] at h
   exact .inr (List.mem_replicate.1 (List.mem_of_getElem? h)).2
 rw [e]
 refine ⟨rfl, ⟨_, rfl, by simp⟩, fun i s hs hl => ?_, fun i s hs hl hz => ?_, fun i s hs => ?_, fun i s hs k hk => ?_, fun i s hs hz => ?_, fun i j a b s t k hs ht ha hb => ?_⟩
 ·rcases at0 i s hs with ⟨rfl, rfl⟩ | rfl
  ·exact ⟨rfl, rfl, rfl⟩
  ·cases hl
 ·rcases at0 i s hs with ⟨rfl, rfl⟩ | rfl
  ·cases hl
  ·exact (hz rfl).elim
 ·rcases at0 i s hs with ⟨rfl, rfl⟩ | rfl <;> exact Nat.zero_le _
 ·rcases at0 i s hs with ⟨rfl, rfl⟩ | rfl <;> cases hk
 ·rcases at0 i s hs with ⟨rfl, rfl⟩ | rfl
  ·exact ⟨fun h => (h rfl).elim, fun h => by cases h⟩
  ·exact (hz rfl).elim
 ·rcases at0 i s hs with ⟨rfl, rfl⟩ | rfl <;> simp at ha
theorem c_new {w : World} {B : Nat} (hB : B ≤ w.heap.size) : Calls Try.prog 64 #[] w (Ans fun v w' => TreeV w' B v ∧ Below w.heap.size w w') := by
 refine (new_any w B hB).mono ?_
 rintro e w' ⟨g, c, rfl, h1, h2, h3, h4⟩
 exact ⟨_, rfl, ⟨0, g, c, (leaf0 :: List.replicate 18 nd0).map sk, fun _ => 0, rfl, h1, ⟨_, h3, rfl⟩, wf_new⟩, h4⟩
section
variable {wz w : World} {b0 b2 b3 P : Nat} {bs : List Int} {o : Oper} {L : List (Nat × Value)}
theorem e_lt (E : LT wz b0 bs b2 b3 P w) {x y : Operand} {v : Value} (ho : o.op = .store 30 x y) (hx : ev L x = some (.pointer (some ⟨b3, 0, none⟩))) (hy : ev L y = some v) (hv : TreeV w wz.heap.size v) : WY Try.prog o L w fun _ W => LT wz b0 bs b2 b3 P W := by
 obtain ⟨v0, v1, rfl, h0, h1⟩ := hv.one
 obtain ⟨t0, t1, k1, _⟩ := E.c3
 exact (w_store ho hx hy (s_tree k1 (by simp) h0 h1)).mono fun _ _ h => by subst h; exact E.store h0 h1 hv
theorem e_tb {B b : Nat} {x y : Operand} {v t0 t1 : Value} (ho : o.op = .store 30 x y) (hx : ev L x = some (.pointer (some ⟨b, 0, none⟩))) (hy : ev L y = some v) (hc : CellsAt w b 30 #[t0, t1]) (hv : TreeV w B v) : WY Try.prog o L w fun _ W => TBox W B b ∧ (∀ k, k ≠ b → W.heap[k]? = w.heap[k]?) ∧ Below b w W := by
 obtain ⟨v0, v1, rfl, h0, h1⟩ := hv.one
 refine (w_store ho hx hy (s_tree hc (by simp) h0 h1)).mono fun _ _ h => ?_
 subst h
 have hk : ∀ k, k ≠ b → ((w.setCell ⟨b, 0, none⟩ v0).setCell ⟨b, 1, none⟩ v1).heap[k]? = w.heap[k]? := fun k hk => (Below.heap_setCell _ _ _ _ hk).trans (Below.heap_setCell _ _ _ _ hk)
 exact ⟨tbox_set (cs0 := #[]) hc h0 h1 hv, hk, ⟨rfl, rfl, rfl, by simp, fun k h => hk k (by omega)⟩⟩
theorem e_new (ho : o.op = .alloc 30) : WY Try.prog o L w fun v W => ∃ b, v = .pointer (some ⟨b, 0, none⟩) ∧ b = w.heap.size ∧ CellsAt W b 30 #[.int .i64 0, .slice none 0 0] ∧ Below w.heap.size w W :=
 (w_alloc ho (a_tree w)).mono fun _ _ ⟨h1, h2⟩ => by subst h1 h2; exact ⟨_, rfl, rfl, CellsAt.new w _ _, (Below.refl _ w).alloc (Nat.le_refl _) _⟩
theorem n_mul7 {x y : Operand} {n : Nat} (h : n ≤ 1000) : (do eqGuard .mul 3 x y (.int .i64 (n : Int)) (.int .i64 7); binOp .mul 3 (.int .i64 (n : Int)) (.int .i64 7) : Sem Value).run Try.prog w = .ok (.int .i64 ((n * 7 : Nat) : Int)) w := by
 have e : IntKind.i64.wrap ((n : Int) * 7) = ((n * 7 : Nat) : Int) := by rw [Go.Rf.wrap64 (by omega) (by omega)]; omega
 simp [go_sem] at e ⊢
 exact e
theorem n_rem100 {x y : Operand} {n : Nat} : (do eqGuard .rem 3 x y (.int .i64 (n : Int)) (.int .i64 100); binOp .rem 3 (.int .i64 (n : Int)) (.int .i64 100) : Sem Value).run Try.prog w = .ok (.int .i64 ((n % 100 : Nat) : Int)) w := by
 have e : (n : Int).tmod 100 = ((n % 100 : Nat) : Int) := by rw [Int.tmod_eq_emod_of_nonneg (by omega)]; omega
 simp [go_sem, e]
theorem n_cat {x y : Operand} {s t : ByteArray} (h : s.size + t.size ≤ 1000) : (do eqGuard .add 9 x y (.string s) (.string t); binOp .add 9 (.string s) (.string t) : Sem Value).run Try.prog w = .ok (.string (s ++ t)) w := by
 simp [go_sem]
 omega
end
end Go.Proofs.Ytcolgghllacloaa.Tm
end

section
namespace Go.Proofs.Ytcolgghllacloaa.Tm
open Go.Rf (RowIn strs ints rep nodeT ownL blk Src IsLow IsUp)
open Go.Proofs.Ytcolgghllacloaa.R (okLen okNode Rd RdAt Bt ask_pick ask_key ask_one ask_of ask_wide)
open Go.RowKit Go.Proofs.Ytcolgghllacloaa.Q Go.Proofs.YtcolgghllacloaaW.PrintWords Go.Proofs.YtcolgghllacloaaW.PrintLast Go.Proofs.YtcolgghllacloaaW.PrintMore
theorem then_exit {K : Act → World → Prop} {Q : Exit → Act → World → Prop} {a : Act} {w : World} {i : Nat} (h : Q (.exit i) a w) : Exit.then K Q (.exit i) a w := h
theorem block_exit {Q : Exit → Act → World → Prop} {a : Act} {w : World} {i : Nat} (h : Q .normal a w) : Exit.inBlock i Q (.exit i) a w := by
 simp only [Exit.inBlock, if_true]
 exact h
def cnt (k : Nat) (x : Act) : Nat := match x.tmps.getD k undef with
 | .int _ n => n.toNat
 | _ => 0
theorem cnt_of {x : Act} {n k : Nat} {L : List (Nat × Value)} {i : Nat} (hT : Tm x n L) (hk : lk L k = some (.int .i64 (i : Int))) : cnt k x = i := by
 unfold cnt
 rw [hT.getD hk]
 exact Int.toNat_natCast i
def TreeOut (wz : World) (b0 : Nat) (bs : List Int) (P : Nat) : Value → World → Prop := fun v w' => TreeV w' wz.heap.size v ∧ (∃ p, p ≤ P ∧ RdAt w' b0 bs p) ∧ Bt b0 wz w'
set_option maxRecDepth 100000 in
set_option maxHeartbeats 4000000 in
theorem tree_any (wz : World) (b0 : Nat) (bs : List Int) (p0 : Nat) (hb : Rd bs) (hp0 : p0 ≤ 100) (h0 : RdAt wz b0 bs p0) : Calls Try.prog 48 #[.pointer (some ⟨b0, 0, none⟩)] wz (Ans (TreeOut wz b0 bs 1000)) := by
 have hlt0 := h0.lt
 refine enter (args := [.pointer (some ⟨b0, 0, none⟩)]) Try.func48 rfl Try.ntmps48 rfl ?_
 intro x hT
 refine wp_seq ?_
 refine wp_region_lit ?_
 refine L_w hT rfl rfl rfl (e_new rfl) ?_
 rintro _ w ⟨b2, rfl, hb2, C2, m0⟩ x hT
 refine wpList_nil ?_
 have hP : p0 ≤ 100 := hp0
 show Code.wp _ _ _ _ _
 refine wp_seq ?_
 refine wp_region_lit ?_
 refine L_w hT rfl rfl rfl (w_callN rfl rfl (by kernel_rfl) (args := []) rfl (c_new (B := wz.heap.size) m0.size)) ?_
 rintro v w ⟨hv, m⟩ x hT
 have C2 := C2.below m C2.lt
 have m0 := m0.trans (m.mono m0.size)
 refine L_w hT rfl rfl rfl (e_new rfl) ?_
 rintro _ w ⟨b3, rfl, hb3, C3, m⟩ x hT
 have h23 : b2 < b3 := (by have := C2.lt; omega)
 have C2 := C2.below m C2.lt
 have hv := hv.below m
 have hz3 := m0.size
 have m0 := m0.trans (m.mono m0.size)
 refine L_s hT rfl rfl (e_tb rfl rfl rfl C3 hv) ?_
 rintro _ w ⟨tb, hk, m⟩
 have m0 := m0.trans (m.mono (by omega))
 have C2 : CellsAt w b2 _ _ := (hk b2 (by omega)).trans C2
 refine wpList_nil ?_
 have E : LT wz b0 bs b2 b3 100 w := ⟨bt_of m0, ⟨p0, hp0, h0.below m0⟩, C2, tb, hlt0, by omega, by omega, by omega⟩
 clear hv C3 hk m0 C2 tb
 show Code.wp _ _ _ _ _
 refine wp_seq ?_
 refine wp_seq ?_
 obtain ⟨p, hp, hr⟩ := E.rd
 refine wp_region_lit ?_
 refine lq hT (q_move rfl rfl) fun x hT => ?_
 refine L_w hT rfl rfl rfl (lit_ints [0, 2, 4, 5, 8, 14, 22, 34, 60] rfl (by intro a w; simp [go_sem, Instr.buildSlice, Instr.fill, Act.eval]) rfl (by omega)) ?_
 rintro _ w ⟨r10, m⟩ x hT
 refine L_w hT rfl rfl rfl (w_callN rfl rfl (by kernel_rfl) (args := [_, _]) rfl (c_one hb (by omega) hr m (by decide) r10)) ?_
 rintro _ w ⟨v, rfl, hv, hr, hbt⟩ x hT
 have E := E.draw hbt hr (P' := 101) (by omega)
 refine lq hT (q_assign rfl rfl) fun x hT => ?_
 refine wpList_nil ?_
 obtain ⟨n, rfl, hn⟩ : ∃ n : Nat, v = (n : Int) ∧ n ≤ 60 := ⟨v.toNat, by
  simp only [List.mem_cons, List.not_mem_nil, or_false] at hv
  rcases hv with rfl | rfl | rfl | rfl | rfl | rfl | rfl | rfl | rfl <;> decide, by
  simp only [List.mem_cons, List.not_mem_nil, or_false] at hv
  rcases hv with rfl | rfl | rfl | rfl | rfl | rfl | rfl | rfl | rfl <;> decide⟩
 clear hr hbt hv r10
 show Code.wp _ _ _ _ _
 refine wp_cut (fun x w => Tm x 68 [(0, .pointer (some ⟨b0, 0, none⟩)), (2, .pointer (some ⟨b2, 0, none⟩)), (3, .pointer (some ⟨b3, 0, none⟩))] ∧ LT wz b0 bs b2 b3 500 w) ?_ ?_
 ·refine wp_block ?_
  refine wp_loop (fun x w => ∃ n : Nat, n ≤ 60 ∧ Tm x 68 [(0, .pointer (some ⟨b0, 0, none⟩)), (2, .pointer (some ⟨b2, 0, none⟩)), (3, .pointer (some ⟨b3, 0, none⟩)), (4, .int .i64 (n : Int))] ∧ LT wz b0 bs b2 b3 (500 - 5 * n) w) (fun x _ => cnt 4 x) ⟨n, hn, hT.sel [0, 2, 3, 4], E.mono (by omega)⟩ ?_
  clear hT E hn
  rintro x w ⟨n, hn, hT, E⟩
  rw [cnt_of hT rfl]
  refine wp_seq ?_
  refine wp_seq ?_
  refine wp_region_lit ?_
  refine lq hT (q_move rfl rfl) fun x hT => ?_
  refine lq hT (q_bin rfl rfl rfl n_gt) fun x hT => ?_
  refine wpList_nil ?_
  show Code.wp _ _ _ _ _
  refine wp_cond_split (hT.ev rfl) (fun h => ?_) (fun h => ?_)
  ·have h := of_decide_eq_true h
   obtain ⟨n, rfl⟩ : ∃ k, n = k + 1 := ⟨n - 1, by omega⟩
   refine wp_skip ?_
   show Code.wp _ _ _ _ _
   refine wp_seq ?_
   refine wp_block ?_
   refine wp_seq ?_
   obtain ⟨p, hp, hr⟩ := E.rd
   refine wp_region_lit ?_
   refine lq hT (q_move rfl rfl) fun x hT => ?_
   refine L_w hT rfl rfl rfl (w_callN rfl rfl (by kernel_rfl) (args := [_]) rfl (c_key hb (by omega) hr)) ?_
   rintro _ w ⟨key, rfl, hr, hbt⟩ x hT
   have E := E.draw hbt hr (P' := 497 - 5 * n) (by omega)
   refine lq hT (q_assign rfl rfl) fun x hT => ?_
   refine wpList_nil ?_
   clear hr hbt
   show Code.wp _ _ _ _ _
   refine wp_seq ?_
   obtain ⟨p, hp, hr⟩ := E.rd
   refine wp_region_lit ?_
   refine lq hT (q_move rfl rfl) fun x hT => ?_
   refine L_w hT rfl rfl rfl (w_callN rfl rfl (by kernel_rfl) (args := [_, _]) rfl (c_pick hb (by omega) hr 4)) ?_
   rintro _ w ⟨v, rfl, _, _, hr, hbt⟩ x hT
   have E := E.draw hbt hr (P' := 498 - 5 * n) (by omega)
   refine lq hT (q_bin rfl rfl rfl n_eq) fun x hT => ?_
   refine wpList_nil ?_
   clear hr hbt
   show Code.wp _ _ _ _ _
   refine wp_cond_split (hT.ev rfl) (fun h2 => ?_) (fun h2 => ?_)
   ·obtain ⟨v0, v1, k1, _, _, kt⟩ := E.c3
    have q0 := k1.cell 0
    have q1 := k1.cell 1
    refine wp_region_lit ?_
    refine lq hT (q_load rfl rfl (l_tree q0 q1)) fun x hT => ?_
    refine lq hT (q_move rfl rfl) fun x hT => ?_
    refine L_w hT rfl rfl rfl (w_callN rfl rfl (by kernel_rfl) (args := [_, _]) rfl (treeDrop_any w wz.heap.size _ key E.bt.size kt)) ?_
    rintro _ w' ⟨tv', kk, rfl, hv, m⟩ x hT
    have hv := hv.weaken E.bt.size
    have E := E.below m
    refine lq hT (q_move rfl rfl) fun x hT => ?_
    refine lq hT (q_extract rfl rfl rfl) fun x hT => ?_
    refine lq hT (q_extract rfl rfl rfl) fun x hT => ?_
    refine L_s hT rfl rfl (e_lt E rfl rfl rfl hv) ?_
    rintro _ w E
    refine wpList_nil ?_
    show Code.wp _ _ _ _ _
    refine wp_region_lit ?_
    refine lq hT (q_move rfl rfl) fun x hT => ?_
    refine lq hT (q_bin rfl rfl rfl (n_sub (by omega))) fun x hT => ?_
    refine lq hT (q_assign rfl rfl) fun x hT => ?_
    refine wpList_nil ?_
    refine ⟨⟨n, by omega, hT.sel [0, 2, 3, 4], E.mono (by omega)⟩, ?_⟩
    rw [cnt_of hT rfl]
    omega
   ·obtain ⟨v0, v1, k1, _, _, kt⟩ := E.c3
    have q0 : w.drew.cell? ⟨b3, 0, none⟩ = some v0 := k1.cell 0
    have q1 : w.drew.cell? ⟨b3, 1, none⟩ = some v1 := k1.cell 1
    have hne : b3 ≠ b0 := by have := E.n0; have := E.n3; omega
    obtain ⟨p, hp, hr⟩ := (E.below (below_drew w)).rd
    refine wp_region_M (n := 10) (But b0 w.drew) [0, 1, 2, 3, 4, 5, 6, 7] [] (by kernel_rfl) rfl ?_
    have hS := But.refl b0 w.drew
    have E0 := E.below (below_drew w)
    have E := E0
    refine mQ 0 [5, 6, 7, 8, 9] hT hS rfl (fun w' hw => q_load rfl rfl (l_tree (cb q0 hne w' hw) (cb q1 hne w' hw))) fun x hT => ?_
    refine mQ 1 [5, 6, 7, 8, 9] hT hS rfl (fun w' hw => q_move rfl rfl) fun x hT => ?_
    refine mQ 2 [4, 5, 6, 7, 8, 9] hT hS rfl (fun w' hw => q_move rfl rfl) fun x hT => ?_
    refine M_one 3 (by kernel_rfl) ?_
    refine at_w hT rfl rfl rfl rfl (lit_strs [⟨#[]⟩, ⟨#[118]⟩, ⟨#[119]⟩] rfl (by intro a k w hT; simp [go_sem, Instr.buildSlice, Instr.fill, Act.eval]) rfl (by omega)) ?_
    rintro _ w ⟨r31, m⟩ x hT
    have hS := hS.bt (bt_of m)
    refine ⟨fun _ _ => hS, ?_⟩
    refine M_one 4 (by kernel_rfl) ?_
    refine at_w hT rfl rfl rfl rfl (w_callN rfl rfl (by kernel_rfl) (args := [_, _]) rfl (c_of hb (by omega) hr m (by decide) (by decide) r31)) ?_
    rintro _ w ⟨val, rfl, _, hr, hbt⟩ x hT
    have hS := bt_but hbt
    have E := E.draw hbt hr (P' := 499 - 5 * n) (by omega)
    refine ⟨fun _ _ => hS, ?_⟩
    refine M_one 5 (by kernel_rfl) ?_
    refine at_w hT rfl rfl rfl rfl (w_callN rfl rfl (by kernel_rfl) (args := [_, _, _]) rfl (treePut_any w wz.heap.size _ key val E.bt.size ((kt.below (below_drew _)).bt hbt E.n0))) ?_
    rintro _ w ⟨tv', kk, rfl, hv, m⟩ x hT
    have hv := hv.weaken E.bt.size
    have hS := hS.bt (bt_of m)
    have E := E.below m
    refine ⟨fun _ _ => hS, ?_⟩
    refine mQ 6 [7, 8, 9] hT hS rfl (fun w' hw => q_move rfl rfl) fun x hT => ?_
    refine M_q0 8 hT rfl (by kernel_rfl) rfl rfl rfl (fun _ _ _ h => nomatch h.1) (fun w' => q_extract rfl rfl rfl) ?_
    intro x hT
    refine mQ 7 [9] hT hS rfl (fun w' hw => q_extract rfl rfl rfl) fun x hT => ?_
    refine M_one 9 (by kernel_rfl) ?_
    refine at_s hT rfl rfl rfl (e_lt E rfl rfl rfl hv) ?_
    rintro _ w E
    refine ⟨fun h => absurd h (by decide), ?_⟩
    refine M_end (by kernel_rfl) ?_
    show Code.wp _ _ _ _ _
    refine wp_region_lit ?_
    refine lq hT (q_move rfl rfl) fun x hT => ?_
    refine lq hT (q_bin rfl rfl rfl (n_sub (by omega))) fun x hT => ?_
    refine lq hT (q_assign rfl rfl) fun x hT => ?_
    refine wpList_nil ?_
    refine ⟨⟨n, by omega, hT.sel [0, 2, 3, 4], E.mono (by omega)⟩, ?_⟩
    rw [cnt_of hT rfl]
    omega
  ·refine wp_exit ?_
   repeat refine then_exit ?_
   refine block_exit ?_
   exact ⟨rfl, hT.sel [0, 2, 3], E.mono (by omega)⟩
 clear hT E
 rintro x w ⟨hT, E⟩
 clear hP hr hp p
 show Code.wp _ _ _ _ _
 refine wp_seq ?_
 refine wp_seq ?_
 obtain ⟨p, hp, hr⟩ := E.rd
 refine wp_region_lit ?_
 refine lq hT (q_move rfl rfl) fun x hT => ?_
 refine L_w hT rfl rfl rfl (lit_ints [0, 0, 0, 3, 9] rfl (by intro a w; simp [go_sem, Instr.buildSlice, Instr.fill, Act.eval]) rfl (by omega)) ?_
 rintro _ w ⟨r10, m⟩ x hT
 refine L_w hT rfl rfl rfl (w_callN rfl rfl (by kernel_rfl) (args := [_, _]) rfl (c_one hb (by omega) hr m (by decide) r10)) ?_
 rintro _ w ⟨v, rfl, hv, hr, hbt⟩ x hT
 have E := E.draw hbt hr (P' := 501) (by omega)
 refine lq hT (q_assign rfl rfl) fun x hT => ?_
 refine wpList_nil ?_
 obtain ⟨n, rfl, hn⟩ : ∃ n : Nat, v = (n : Int) ∧ n ≤ 9 := ⟨v.toNat, by
  simp only [List.mem_cons, List.not_mem_nil, or_false] at hv
  rcases hv with rfl | rfl | rfl | rfl | rfl <;> decide, by
  simp only [List.mem_cons, List.not_mem_nil, or_false] at hv
  rcases hv with rfl | rfl | rfl | rfl | rfl <;> decide⟩
 clear hr hbt hv r10
 show Code.wp _ _ _ _ _
 refine wp_cut (fun x w => Tm x 68 [(0, .pointer (some ⟨b0, 0, none⟩)), (2, .pointer (some ⟨b2, 0, none⟩)), (3, .pointer (some ⟨b3, 0, none⟩))] ∧ LT wz b0 bs b2 b3 700 w) ?_ ?_
 ·refine wp_block ?_
  refine wp_loop (fun x w => ∃ n : Nat, n ≤ 9 ∧ Tm x 68 [(0, .pointer (some ⟨b0, 0, none⟩)), (2, .pointer (some ⟨b2, 0, none⟩)), (3, .pointer (some ⟨b3, 0, none⟩)), (6, .int .i64 (n : Int))] ∧ LT wz b0 bs b2 b3 (700 - 5 * n) w) (fun x _ => cnt 6 x) ⟨n, hn, hT.sel [0, 2, 3, 6], E.mono (by omega)⟩ ?_
  clear hT E hn
  rintro x w ⟨n, hn, hT, E⟩
  rw [cnt_of hT rfl]
  refine wp_seq ?_
  refine wp_seq ?_
  refine wp_region_lit ?_
  refine lq hT (q_move rfl rfl) fun x hT => ?_
  refine lq hT (q_bin rfl rfl rfl n_gt) fun x hT => ?_
  refine wpList_nil ?_
  show Code.wp _ _ _ _ _
  refine wp_cond_split (hT.ev rfl) (fun h => ?_) (fun h => ?_)
  ·have h := of_decide_eq_true h
   obtain ⟨n, rfl⟩ : ∃ k, n = k + 1 := ⟨n - 1, by omega⟩
   refine wp_skip ?_
   show Code.wp _ _ _ _ _
   refine wp_seq ?_
   refine wp_block ?_
   obtain ⟨v0, v1, k1, _, _, kt⟩ := E.c3
   have q0 : w.drew.cell? ⟨b3, 0, none⟩ = some v0 := k1.cell 0
   have q1 : w.drew.cell? ⟨b3, 1, none⟩ = some v1 := k1.cell 1
   have hne : b3 ≠ b0 := by have := E.n0; have := E.n3; omega
   obtain ⟨p, hp, hr⟩ := (E.below (below_drew w)).rd
   refine wp_region_M (n := 8) (But b0 w.drew) [0, 1, 2, 3, 4, 5] [] (by kernel_rfl) rfl ?_
   have hS := But.refl b0 w.drew
   have E0 := E.below (below_drew w)
   have E := E0
   refine mQ 0 [3, 4, 5, 6, 7] hT hS rfl (fun w' hw => q_load rfl rfl (l_tree (cb q0 hne w' hw) (cb q1 hne w' hw))) fun x hT => ?_
   refine mQ 1 [2, 3, 4, 5, 6, 7] hT hS rfl (fun w' hw => q_move rfl rfl) fun x hT => ?_
   refine M_one 2 (by kernel_rfl) ?_
   refine at_w hT rfl rfl rfl rfl (w_callN rfl rfl (by kernel_rfl) (args := [_]) rfl (c_key hb (by omega) hr)) ?_
   rintro _ w ⟨key, rfl, hr, hbt⟩ x hT
   have hS := bt_but hbt
   have E := E.draw hbt hr (P' := 699 - 5 * n) (by omega)
   refine ⟨fun _ _ => hS, ?_⟩
   refine M_one 3 (by kernel_rfl) ?_
   refine at_w hT rfl rfl rfl rfl (w_callN rfl rfl (by kernel_rfl) (args := [_, _]) rfl (treeDrop_any w wz.heap.size _ key E.bt.size ((kt.below (below_drew _)).bt hbt E.n0))) ?_
   rintro _ w ⟨tv', kk, rfl, hv, m⟩ x hT
   have hv := hv.weaken E.bt.size
   have hS := hS.bt (bt_of m)
   have E := E.below m
   refine ⟨fun _ _ => hS, ?_⟩
   refine mQ 4 [5, 6, 7] hT hS rfl (fun w' hw => q_move rfl rfl) fun x hT => ?_
   refine M_q0 6 hT rfl (by kernel_rfl) rfl rfl rfl (fun _ _ _ h => nomatch h.1) (fun w' => q_extract rfl rfl rfl) ?_
   intro x hT
   refine mQ 5 [7] hT hS rfl (fun w' hw => q_extract rfl rfl rfl) fun x hT => ?_
   refine M_one 7 (by kernel_rfl) ?_
   refine at_s hT rfl rfl rfl (e_lt E rfl rfl rfl hv) ?_
   rintro _ w E
   refine ⟨fun h => absurd h (by decide), ?_⟩
   refine M_end (by kernel_rfl) ?_
   show Code.wp _ _ _ _ _
   refine wp_region_lit ?_
   refine lq hT (q_move rfl rfl) fun x hT => ?_
   refine lq hT (q_bin rfl rfl rfl (n_sub (by omega))) fun x hT => ?_
   refine lq hT (q_assign rfl rfl) fun x hT => ?_
   refine wpList_nil ?_
   refine ⟨⟨n, by omega, hT.sel [0, 2, 3, 6], E.mono (by omega)⟩, ?_⟩
   rw [cnt_of hT rfl]
   omega
  ·refine wp_exit ?_
   repeat refine then_exit ?_
   refine block_exit ?_
   exact ⟨rfl, hT.sel [0, 2, 3], E.mono (by omega)⟩
 clear hT E
 rintro x w ⟨hT, E⟩
 clear hr hp p
 show Code.wp _ _ _ _ _
 refine wp_seq ?_
 refine wp_cut (fun x w => Tm x 68 [(0, .pointer (some ⟨b0, 0, none⟩)), (2, .pointer (some ⟨b2, 0, none⟩)), (3, .pointer (some ⟨b3, 0, none⟩))] ∧ LT wz b0 bs b2 b3 800 w) ?_ ?_
 ·refine wp_seq ?_
  obtain ⟨p, hp, hr⟩ := E.rd
  refine wp_region_lit ?_
  refine lq hT (q_move rfl rfl) fun x hT => ?_
  refine L_w hT rfl rfl rfl (w_callN rfl rfl (by kernel_rfl) (args := [_, _]) rfl (c_pick hb (by omega) hr 16)) ?_
  rintro _ w ⟨v, rfl, _, _, hr, hbt⟩ x hT
  have E := E.draw hbt hr (P' := 800) (by omega)
  refine lq hT (q_bin rfl rfl rfl n_eq) fun x hT => ?_
  refine wpList_nil ?_
  clear hr hbt
  show Code.wp _ _ _ _ _
  refine wp_cond_split (hT.ev rfl) (fun h => ?_) (fun h => ?_)
  ·refine wp_seq ?_
   refine wp_region_lit ?_
   refine lq hT (q_assign rfl rfl) fun x hT => ?_
   refine wpList_nil ?_
   show Code.wp _ _ _ _ _
   refine wp_block ?_
   refine wp_loop (fun x w => ∃ n : Nat, n ≤ 70 ∧ Tm x 68 [(0, .pointer (some ⟨b0, 0, none⟩)), (2, .pointer (some ⟨b2, 0, none⟩)), (3, .pointer (some ⟨b3, 0, none⟩)), (7, .int .i64 (n : Int))] ∧ LT wz b0 bs b2 b3 800 w) (fun x _ => 70 - cnt 7 x) ⟨0, by omega, hT.sel [0, 2, 3, 7], E⟩ ?_
   clear hT E
   rintro x w ⟨n, hn, hT, E⟩
   rw [cnt_of hT rfl]
   refine wp_seq ?_
   refine wp_seq ?_
   refine wp_region_lit ?_
   refine lq hT (q_move rfl rfl) fun x hT => ?_
   refine lq hT (q_bin rfl rfl rfl n_lt) fun x hT => ?_
   refine wpList_nil ?_
   show Code.wp _ _ _ _ _
   refine wp_cond_split (hT.ev rfl) (fun h => ?_) (fun h => ?_)
   ·have h := of_decide_eq_true h
    refine wp_skip ?_
    show Code.wp _ _ _ _ _
    refine wp_seq ?_
    refine wp_block ?_
    obtain ⟨v0, v1, k1, _, _, kt⟩ := E.c3
    have q0 : w.drew.cell? ⟨b3, 0, none⟩ = some v0 := k1.cell 0
    have q1 : w.drew.cell? ⟨b3, 1, none⟩ = some v1 := k1.cell 1
    refine wp_region_M (n := 11) (Below w.drew.heap.size w.drew) [0, 1, 2, 3, 4, 5, 6, 7, 8] [] (by kernel_rfl) rfl ?_
    have hS := Below.refl w.drew.heap.size w.drew
    have E0 := E.below (below_drew w)
    have E := E0
    refine mQ 0 [6, 7, 8, 9, 10] hT hS rfl (fun w' hw => q_load rfl rfl (l_tree (ck q0 w' hw) (ck q1 w' hw))) fun x hT => ?_
    refine mQ 1 [2, 3, 4, 5, 6, 7, 8, 9, 10] hT hS rfl (fun w' hw => q_move rfl rfl) fun x hT => ?_
    refine mQ 2 [3, 4, 5, 6, 7, 8, 9, 10] hT hS rfl (fun w' hw => q_bin rfl rfl rfl (n_mul7 (by omega))) fun x hT => ?_
    refine mQ 3 [4, 5, 6, 7, 8, 9, 10] hT hS rfl (fun w' hw => q_bin rfl rfl rfl n_rem100) fun x hT => ?_
    refine M_one 4 (by kernel_rfl) ?_
    refine at_w hT rfl rfl rfl rfl (w_callN rfl rfl (by kernel_rfl) (args := [_, _]) rfl (c_wide (by omega))) ?_
    rintro _ w ⟨s, rfl, hs, m⟩ x hT
    have hS := hS.trans (m.mono hS.size)
    have E := E.below m
    have kt := (kt.below (below_drew _)).below m
    refine ⟨fun _ _ => hS, ?_⟩
    refine mQ 5 [6, 7, 8, 9, 10] hT hS rfl (fun w' hw => q_bin rfl rfl rfl (n_cat (by have : (⟨#[113]⟩ : ByteArray).size = 1 := rfl; omega))) fun x hT => ?_
    refine M_one 6 (by kernel_rfl) ?_
    refine at_w hT rfl rfl rfl rfl (w_callN rfl rfl (by kernel_rfl) (args := [_, _, _]) rfl (treePut_any w wz.heap.size _ _ _ E.bt.size kt)) ?_
    rintro _ w ⟨tv', kk, rfl, hv, m⟩ x hT
    have hv := hv.weaken E.bt.size
    have hS := hS.trans (m.mono hS.size)
    have E := E.below m
    refine ⟨fun _ _ => hS, ?_⟩
    refine mQ 7 [8, 9, 10] hT hS rfl (fun w' hw => q_move rfl rfl) fun x hT => ?_
    refine M_q0 9 hT rfl (by kernel_rfl) rfl rfl rfl (fun _ _ _ h => nomatch h.1) (fun w' => q_extract rfl rfl rfl) ?_
    intro x hT
    refine mQ 8 [10] hT hS rfl (fun w' hw => q_extract rfl rfl rfl) fun x hT => ?_
    refine M_one 10 (by kernel_rfl) ?_
    refine at_s hT rfl rfl rfl (e_lt E rfl rfl rfl hv) ?_
    rintro _ w E
    refine ⟨fun h => absurd h (by decide), ?_⟩
    refine M_end (by kernel_rfl) ?_
    show Code.wp _ _ _ _ _
    refine wp_region_lit ?_
    refine lq hT (q_move rfl rfl) fun x hT => ?_
    refine lq hT (q_bin rfl rfl rfl (n_add (by omega))) fun x hT => ?_
    refine lq hT (q_assign rfl rfl) fun x hT => ?_
    refine wpList_nil ?_
    refine ⟨⟨n + 1, by omega, hT.sel [0, 2, 3, 7], E⟩, ?_⟩
    rw [cnt_of hT rfl]
    omega
   ·refine wp_exit ?_
    repeat refine then_exit ?_
    refine block_exit ?_
    exact ⟨rfl, hT.sel [0, 2, 3], E⟩
  ·refine wp_skip ?_
   exact ⟨rfl, hT.sel [0, 2, 3], E⟩
 clear hT E
 rintro x w ⟨hT, E⟩
 show Code.wp _ _ _ _ _
 refine wp_seq ?_
 obtain ⟨v0, v1, k1, g0, g1, kt⟩ := E.c3
 have q0 := k1.cell 0
 have q1 := k1.cell 1
 obtain ⟨p, hp, hr⟩ := E.rd
 refine wp_region_lit ?_
 refine lq hT (q_load rfl rfl (l_tree q0 q1)) fun x hT => ?_
 refine L_s hT rfl rfl (e_tb rfl rfl rfl E.c2 kt) ?_
 rintro _ w1 ⟨tb, hk, m⟩
 refine wpList_nil ?_
 have hn2 := E.n2
 have hn0 := E.n0
 have hrd : RdAt w1 b0 bs p := rd_but hr E.c2 (fun j x => by
  match j with
  | 0 => intro h; simp at h
  | 1 => intro h; simp at h
  | j + 2 => simp) (by omega) hk m.size
 obtain ⟨u0, u1, d1, _, _, dt⟩ := tb
 show Code.wp _ _ _ _ _
 refine wp_ret ?_
 repeat refine then_ret ?_
 show bodyPost _ _ _ _ _ _
 refine ret_t hT rfl rfl d1 ?_
 exact ⟨_, rfl, dt, ⟨p, by omega, hrd⟩, m.os.trans E.bt.os, m.tape.trans E.bt.tape, m.output.trans E.bt.output, Nat.le_trans E.bt.size m.size, fun k h1 h2 => (hk k (by omega)).trans (E.bt.block k h1 h2)⟩
end Go.Proofs.Ytcolgghllacloaa.Tm
end

section
namespace Go.Proofs.Ytcolgghllacloaa.Tm
open Go.Rf (RowIn strs ints rep nodeT ownL blk Src IsLow IsUp)
open Go.Proofs.Ytcolgghllacloaa.R (okLen okNode Rd RdAt Bt)
open Go.RowKit Go.Proofs.Ytcolgghllacloaa.Q Go.Proofs.YtcolgghllacloaaW.PrintWords Go.Proofs.YtcolgghllacloaaW.PrintLast Go.Proofs.YtcolgghllacloaaW.PrintMore
def Wk (w w' : World) : Prop := ∀ (k : Nat) cs t fz, w.heap[k]? = some (.cells cs t fz) → ∃ cs', w'.heap[k]? = some (.cells cs' t fz) ∧ cs'.size = cs.size ∧ ∀ j : Nat, cs'[j]? = cs[j]? ∨ (t = 9 ∧ ∃ s, cs'[j]? = some (.string s)) ∨ (t = 3 ∧ ∃ i, cs'[j]? = some (.int .i64 i))
section
variable {w w' : World} {B g : Nat} {N : List Nd} {v : Value}
theorem Wk.other (h : Wk w w') {b : Nat} {t : TypeId} {cs : Array Value} (hc : CellsAt w b t cs) (h1 : t ≠ 9) (h2 : t ≠ 3) : CellsAt w' b t cs := by
 obtain ⟨cs', e, hs, hj⟩ := h b cs t (0, 0) hc
 have : cs' = cs := by
  apply Array.ext_getElem?
  intro j
  rcases hj j with h | ⟨h, _⟩ | ⟨h, _⟩
  ·exact h
  ·exact (h1 h).elim
  ·exact (h2 h).elim
 subst this
 exact e
theorem take_kind {α : Type} {f : α → Value} {cs : Array Value} {n : Nat} (hn : n ≤ cs.size) (h : ∀ j, j < n → ∃ x, cs[j]? = some (f x)) : ∃ l : List α, l.length = n ∧ cs.toList.take n = l.map f := by
 induction n with
 | zero => exact ⟨[], rfl, by simp⟩
 | succ n ih =>
  obtain ⟨l, h1, h2⟩ := ih (by omega) (fun j hj => h j (by omega))
  obtain ⟨x, hx⟩ := h n (by omega)
  refine ⟨l ++ [x], by simp [h1], ?_⟩
  rw [List.take_add_one, h2]
  have : cs.toList[n]? = some (f x) := by simpa using hx
  rw [this]
  simp
theorem Wk.rowS (h : Wk w w') {l : List ByteArray} (r : RowIn w B 9 v (strs l)) : ∃ l' : List ByteArray, l'.length = l.length ∧ RowIn w' B 9 v (strs l') := by
 have hlen : (strs l).length = l.length := List.length_map _
 rcases r with ⟨rfl, h0⟩ | ⟨x, cap, cr, rfl, hb, hh, h1, h2, h3, h4⟩
 ·exact ⟨l, rfl, .inl ⟨rfl, h0⟩⟩
 ·obtain ⟨cs', e, hs, hj⟩ := h x cr _ _ hh
  rw [hlen] at h1 h4
  obtain ⟨l', q1, q2⟩ := take_kind (f := Value.string) (cs := cs') (n := l.length) (by omega) (fun j hjl => by
   have hold : cr[j]? = some (.string l[j]) := by
    have : (cr.toList.take l.length)[j]? = some (.string l[j]) := by rw [h4]; simp [Go.Rf.strs, hjl]
    rw [List.getElem?_take_of_lt hjl] at this
    simpa using this
   rcases hj j with h | ⟨_, s, h⟩ | ⟨_, i, h⟩
   ·exact ⟨_, h.trans hold⟩
   ·exact ⟨s, h⟩
   ·rename_i ht
    exact absurd ht (by decide))
  have hl' : (strs l').length = l.length := (List.length_map _).trans q1
  exact ⟨l', q1, .inr ⟨x, cap, cs', by rw [hlen, hl'], hb, e, by omega, h2, by omega, by rw [hl']; exact q2⟩⟩
theorem Wk.rowI (h : Wk w w') {l : List Int} (r : RowIn w B 3 v (ints l)) : ∃ l' : List Int, l'.length = l.length ∧ RowIn w' B 3 v (ints l') := by
 have hlen : (ints l).length = l.length := List.length_map _
 rcases r with ⟨rfl, h0⟩ | ⟨x, cap, cr, rfl, hb, hh, h1, h2, h3, h4⟩
 ·exact ⟨l, rfl, .inl ⟨rfl, h0⟩⟩
 ·obtain ⟨cs', e, hs, hj⟩ := h x cr _ _ hh
  rw [hlen] at h1 h4
  obtain ⟨l', q1, q2⟩ := take_kind (f := Value.int .i64) (cs := cs') (n := l.length) (by omega) (fun j hjl => by
   have hold : cr[j]? = some (.int .i64 l[j]) := by
    have : (cr.toList.take l.length)[j]? = some (.int .i64 l[j]) := by rw [h4]; simp [Go.Rf.ints, hjl]
    rw [List.getElem?_take_of_lt hjl] at this
    simpa using this
   rcases hj j with h | ⟨ht, s, h⟩ | ⟨_, i, h⟩
   ·exact ⟨_, h.trans hold⟩
   ·exact absurd ht (by decide)
   ·exact ⟨i, h⟩)
  have hl' : (ints l').length = l.length := (List.length_map _).trans q1
  exact ⟨l', q1, .inr ⟨x, cap, cs', by rw [hlen, hl'], hb, e, by omega, h2, by omega, by rw [hl']; exact q2⟩⟩
def lens (n : Nd) : Nat × Nat × Nat := (n.2.1.length, n.2.2.1.length, n.2.2.2.1.length)
theorem TI.wk (h : TI w B g N) (k : Wk w w') : ∃ N', TI w' B g N' ∧ N'.map lens = N.map lens := by
 obtain ⟨cur, h1, h2, h3, h4⟩ := h
 obtain ⟨N', e1, e2⟩ := choose_list (P := fun i (n n' : Nd) => lens n' = lens n ∧ NdC w' B cur (i * 4) n') N 0 (fun i n hn => by
  obtain ⟨uK, uV, uI, q0, q1, q2, q3, rK, rV, rI⟩ := h4 i n hn
  obtain ⟨K, kl, k1⟩ := k.rowS rK
  obtain ⟨V, vl, v1⟩ := k.rowS rV
  obtain ⟨I, il, i1⟩ := k.rowI rI
  refine ⟨(n.1, K, V, I, ()), ?_, uK, uV, uI, by simpa using q0, by simpa using q1, by simpa using q2, by simpa using q3, k1, v1, i1⟩
  unfold lens
  simp only [kl, vl, il])
 have hN' : ∀ i n', N'[i]? = some n' → ∃ n, N[i]? = some n := fun i n' hn => by
  have := (List.getElem?_eq_some_iff.1 hn).1
  exact ⟨_, List.getElem?_eq_getElem (by omega)⟩
 refine ⟨N', ⟨cur, k.other h1 (by decide) (by decide), by omega, h3, fun i n' hn => ?_⟩, ?_⟩
 ·obtain ⟨n, hn'⟩ := hN' i n' hn
  have := (e2 i n n' hn' hn).2
  rwa [Nat.zero_add] at this
 ·apply List.ext_getElem?
  intro i
  rw [List.getElem?_map, List.getElem?_map]
  cases hi : N'[i]? with
  | none =>
   have : N[i]? = none := List.getElem?_eq_none (by have := List.getElem?_eq_none_iff.1 hi; omega)
   rw [this]
  | some n' =>
   obtain ⟨n, hn'⟩ := hN' i n' hi
   rw [hn']
   exact congrArg some (e2 i n n' hn' hi).1
theorem TI.put1 (h : TI w B g N) {i j : Nat} {n n' : Nd} (hn : N[i]? = some n) (hj : j < 4) {u : Value} {uK uV uI : Value} (e0 : w.cell? ⟨g, i * 4, none⟩ = some (.bool n.1)) (e1 : w.cell? ⟨g, i * 4 + 1, none⟩ = some uK) (e2 : w.cell? ⟨g, i * 4 + 2, none⟩ = some uV) (e3 : w.cell? ⟨g, i * 4 + 3, none⟩ = some uI)
  (f0 : (if j = 0 then u else .bool n.1) = .bool n'.1) (rK : RowIn w B 9 (if j = 1 then u else uK) (strs n'.2.1)) (rV : RowIn w B 9 (if j = 2 then u else uV) (strs n'.2.2.1)) (rI : RowIn w B 3 (if j = 3 then u else uI) (ints n'.2.2.2.1)) : TI (w.setCell ⟨g, i * 4 + j, none⟩ u) B g (N.set i n') := by
 obtain ⟨cur, h1, h2, h3, h4⟩ := h
 have hi := (List.getElem?_eq_some_iff.1 hn).1
 rw [h1.cell] at e0 e1 e2 e3
 have keepR : ∀ {id : Nat} {v : Value} {l : List Value}, RowIn w B id v l → id ≠ 72 → RowIn (w.setCell ⟨g, i * 4 + j, none⟩ u) B id v l := fun r hid => r.keep fun x hx => Below.heap_setCell _ _ _ _ (RowIn.ne r h1 hid x hx)
 refine ⟨_, h1.set _ u, by simp only [List.length_set, Array.size_setIfInBounds]; exact h2, h3, fun k m hm => ?_⟩
 by_cases e : i = k
 ·subst e
  rw [List.getElem?_set_self hi] at hm
  obtain rfl := Option.some.inj hm
  have get : ∀ q, q < 4 → (cur.setIfInBounds (i * 4 + j) u)[i * 4 + q]? = if j = q then some u else cur[i * 4 + q]? := fun q hq => by
   rw [set_get]
   by_cases e : j = q
   ·subst e; rw [if_pos rfl, if_pos rfl, if_pos (by omega)]
   ·rw [if_neg (by omega), if_neg e]
  refine ⟨_, _, _, ?_, ?_, ?_, ?_, keepR rK (by decide), keepR rV (by decide), keepR rI (by decide)⟩
  ·have := get 0 (by omega)
   rw [Nat.add_zero] at this
   rw [this, ← f0]
   split <;> first | rfl | exact e0
  ·rw [get 1 (by omega)]
   split <;> first | rfl | exact e1
  ·rw [get 2 (by omega)]
   split <;> first | rfl | exact e2
  ·rw [get 3 (by omega)]
   split <;> first | rfl | exact e3
 ·rw [List.getElem?_set_ne e] at hm
  obtain ⟨vK, vV, vI, d0, d1, d2, d3, sK, sV, sI⟩ := h4 k m hm
  have key : ∀ q, q < 4 → (cur.setIfInBounds (i * 4 + j) u)[k * 4 + q]? = cur[k * 4 + q]? := fun q hq => by
   rw [set_get, if_neg (by omega)]
  exact ⟨vK, vV, vI, (key 0 (by omega)).trans d0, (key 1 (by omega)).trans d1, (key 2 (by omega)).trans d2, (key 3 (by omega)).trans d3, keepR sK (by decide), keepR sV (by decide), keepR sI (by decide)⟩
theorem wk_set {b : Nat} {t : TypeId} {cs : Array Value} {j : Nat} {u : Value} (hc : CellsAt w b t cs) (h : (t = 9 ∧ ∃ s, u = .string s) ∨ (t = 3 ∧ ∃ i, u = .int .i64 i)) : Wk w (w.setCell ⟨b, j, none⟩ u) := fun k ck tk fz hk => by
 by_cases e : k = b
 ·subst e
  have e2 := hk.symm.trans hc
  injection e2 with e2
  injection e2 with e3 e4 e5
  subst e3 e4 e5
  refine ⟨_, hc.set j u, by simp, fun i => ?_⟩
  by_cases ej : j = i
  ·subst ej
   rcases Nat.lt_or_ge j ck.size with hlt | hge
   ·have : (ck.setIfInBounds j u)[j]? = some u := by rw [Array.getElem?_setIfInBounds_self, if_pos hlt]
    rcases h with ⟨h1, s, rfl⟩ | ⟨h1, i, rfl⟩
    ·exact .inr (.inl ⟨h1, s, this⟩)
    ·exact .inr (.inr ⟨h1, i, this⟩)
   ·left
    rw [Array.getElem?_eq_none (by simpa using hge), Array.getElem?_eq_none hge]
  ·exact .inl (Array.getElem?_setIfInBounds_ne ej)
 ·exact ⟨ck, (Below.heap_setCell _ _ _ _ e).trans hk, rfl, fun _ => .inl rfl⟩
end
end Go.Proofs.Ytcolgghllacloaa.Tm
end

section
namespace Go.Rf
open Go.RowKit
structure AppW (w w' : World) (b : Option Nat) (e : TypeId) (o : Nat) (news : List Value) : Prop where
 os : w'.os = w.os
 tape : w'.tape = w.tape
 output : w'.output = w.output
 size : w.heap.size ≤ w'.heap.size
 block : ∀ k, k < w.heap.size → w'.heap[k]? = w.heap[k]? ∨ b = some k ∧ ∃ cur, w.heap[k]? = some (.cells cur e (0, 0)) ∧ w'.heap[k]? = some (.cells (cur.toList.take o ++ news ++ cur.toList.drop (o + news.length)).toArray e (0, 0)) ∧ o + news.length ≤ cur.size
section
variable {P : Program} {w : World}
theorem run_append_wk {t u ty e : TypeId} {i : TypeInfo} {z : Value} {d : TypeDesc} (ht : P.underlying t = some (.slice e)) (hu : P.underlying u = some d) (hd : notInt d) (hi : P.info? e = some i) (hz : i.zero = some z)
  (hzs : z.cells.size = i.size) {v : Value} {n : Nat} {xs : List Value} (hown : ownL w e i.size v n xs) {x : Value} {m : Nat} {news : List Value} (hx : Src P w i.size x m news)
  (h63 : n + m ≤ maxLen) (hbytes : (n + m) * i.bytes ≤ 140737488355328) :
  ∃ v' w', (Builtin.append_ #[t, u] ty #[v, x]).run P w = .ok v' w' ∧ ownL w' e i.size v' (n + m) (xs ++ news) ∧ AppW w w' (blk v) e (n * i.size) news ∧ (∀ b, blk v' = some b → blk v = some b ∨ w.heap.size ≤ b) ∧ ∃ A c, v' = .slice A (n + m) c := by
 have hsmall : n + m ≤ 9223372036854775807 := by simp only [maxLen] at h63; omega
 have hlen : (xs ++ news).length = (n + m) * i.size := by rw [List.length_append, hown.1, hx.size, Nat.add_mul]
 have grown : ∀ (b : Option Nat) (old : Nat),
   ownL (w.drew.alloc (.cells (xs.toArray ++ news.toArray ++ Builtin.zeroCells z.cells (grownCap w (n + m) old e - (n + m))) e)) e i.size
    (.slice (some ⟨w.heap.size, 0, none⟩) (n + m) (grownCap w (n + m) old e)) (n + m) (xs ++ news) ∧
   AppW w (w.drew.alloc (.cells (xs.toArray ++ news.toArray ++ Builtin.zeroCells z.cells (grownCap w (n + m) old e - (n + m))) e)) b e (n * i.size) news := by
  intro b old
  have hge := grownCap_ge w (n + m) old e
  have hcm : grownCap w (n + m) old e ≤ maxLen := grownCap_le_maxLen w (n + m) old e h63
  refine ⟨⟨hlen, .inr ⟨w.heap.size, _, _, rfl, heap_alloc_new w.drew _, hge, hcm, ?_, ?_⟩⟩, ⟨rfl, rfl, rfl, by simp, fun k hk => .inl (Below.heap_alloc w.drew _ k hk)⟩⟩
  ·simp only [Array.size_append, List.size_toArray, size_zeroCells, hzs, hown.1, hx.size, ← Nat.add_mul]
   exact Nat.mul_le_mul_right _ (by omega)
  ·simp only [Array.toList_append, List.append_assoc]
   rw [← List.append_assoc, ← hlen]
   exact List.take_left
 have hcong : ∀ old, (xs.toArray ++ (news.toArray ++ Builtin.zeroCells z.cells (grownCap w (n + m) old e - (n + m)))) = (xs.toArray ++ news.toArray ++ Builtin.zeroCells z.cells (grownCap w (n + m) old e - (n + m))) := fun old => by
  apply Array.ext'; simp
 rcases hown.2 with ⟨rfl, rfl⟩ | ⟨g, cap, cur, rfl, hg, hnc, hcm, hcs, htake⟩
 ·have hxs : xs = [] := List.eq_nil_of_length_eq_zero (by simpa using hown.1)
  subst hxs
  by_cases hm : m = 0
  ·subst hm
   have hn : news = [] := List.eq_nil_of_length_eq_zero (by simpa using hx.size)
   subst hn
   refine ⟨.slice none 0 0, w, ?_, ⟨by simp, .inl ⟨rfl, rfl⟩⟩, ⟨rfl, rfl, rfl, Nat.le_refl _, fun _ _ => .inl rfl⟩, (fun b hb => by simp [blk] at hb), none, 0, rfl⟩
   have h1 := hx.len w
   have h2 := hx.here
   rcases hd with ⟨_, rfl⟩ | rfl <;> simp [Builtin.append_, run_underlying ht, run_underlying hu, sizeOf, typeInfo, hi, h1, h2]
  ·have hm0 : ¬ (m = 0) := hm
   have h63' : ¬ (9223372036854775807 < (m : Int)) := by omega
   have h48' : ¬ (281474976710656 < Builtin.nextslicecap m 0 * i.bytes) := by have := growslice_fits (need := m) (old := 0) (bytes := i.bytes) (by omega) (by simpa using hbytes); omega
   have hgr := grown (blk (.slice none 0 0)) 0
   simp only [Nat.zero_add, List.nil_append, Array.empty_append] at hgr ⊢
   refine ⟨_, _, ?_, hgr.1, hgr.2, (fun b hb => .inr (by simp only [blk, Option.some.injEq] at hb; omega)), _, _, rfl⟩
   have h1 := hx.len w
   have h2 := hx.drew
   rcases hd with ⟨_, rfl⟩ | rfl <;> simp [Builtin.append_, run_underlying ht, run_underlying hu, sizeOf, typeInfo, zeroValue, hi, hz, h1, h2, hm0, h63', h48', Question.forced, run_firstCells_none, Go.newRow, grownCap]
 ·by_cases hroom : n + m ≤ cap
  ·have hfit : n * i.size + news.length ≤ cur.size := by rw [hx.size, ← Nat.add_mul]; exact Nat.le_trans (Nat.mul_le_mul_right _ hroom) hcs
   have hst := run_storeCells_at P g (n * i.size) e news 0 cur w hg (by simpa using hfit) hx.one
   simp only [Nat.add_zero] at hst
   refine ⟨.slice (some ⟨g, 0, none⟩) (n + m) cap, w.setRow g (cur.toList.take (n * i.size) ++ news ++ cur.toList.drop (n * i.size + news.length)).toArray, ?_,
    ⟨hlen, .inr ⟨g, cap, _, rfl, setRow_heap w g cur _ e _ hg, hroom, hcm, ?_, ?_⟩⟩, ⟨rfl, rfl, rfl, by simp, fun k _ => by
     by_cases ek : k = g
     ·subst ek
      exact .inr ⟨rfl, cur, hg, setRow_heap w k cur _ e _ hg, by omega⟩
     ·exact .inl (setRow_other w g k _ ek)⟩, (fun b hb => .inl hb), _, _, rfl⟩
   ·have h1 := hx.len w
    have h2 := hx.here
    rcases hd with ⟨_, rfl⟩ | rfl <;> simp [Builtin.append_, run_underlying ht, run_underlying hu, sizeOf, typeInfo, hi, h1, hroom, h2, Addr.add_lit, hst]
   ·simp only [List.size_toArray, List.length_append, List.length_take, List.length_drop, Array.length_toList]
    omega
   ·rw [htake, ← hlen]
    exact List.take_left
  ·have holds : ∀ j u, xs[j]? = some u → w.drew.cell? ((⟨g, 0, none⟩ : Addr).add j) = some u := fun j u hj => by
    rw [World.cell?_drew, add_mk, cell_of_row w g j cur e (0, 0) hg]
    rw [← htake, List.getElem?_take] at hj
    split at hj
    ·simpa using hj
    ·cases hj
   have hfo := run_firstCells_some (P := P) w.drew i.size n ⟨g, 0, none⟩ n cap xs hown.1 holds
   have h63' : ¬ (9223372036854775807 < ((n : Int) + (m : Int))) := by omega
   have h48' : ¬ (281474976710656 < Builtin.nextslicecap (n + m) cap * i.bytes) := by have := growslice_fits (need := n + m) (old := cap) (bytes := i.bytes) (by omega) hbytes; omega
   have hgr := grown (blk (.slice (some ⟨g, 0, none⟩) n cap)) cap
   refine ⟨_, _, ?_, hgr.1, hgr.2, (fun b hb => .inr (by simp only [blk, Option.some.injEq] at hb; omega)), _, _, rfl⟩
   have h1 := hx.len w
   have h2 := hx.drew
   rcases hd with ⟨_, rfl⟩ | rfl <;> simp [Builtin.append_, run_underlying ht, run_underlying hu, sizeOf, typeInfo, zeroValue, hi, hz, h1, h2, hroom, h63', h48', Question.forced, hfo, Go.newRow, grownCap]
   all_goals
    congr 2
    apply Array.ext'
    simp
end
end Go.Rf
namespace Go.Proofs.Ytcolgghllacloaa.Tm
open Go.Rf (RowIn strs ints rep nodeT ownL blk Src IsLow IsUp AppW)
open Go.RowKit Go.Proofs.Ytcolgghllacloaa.Q Go.Proofs.YtcolgghllacloaaW.PrintWords Go.Proofs.YtcolgghllacloaaW.PrintLast Go.Proofs.YtcolgghllacloaaW.PrintMore
section
variable {w w' : World} {B : Nat} {v : Value}
theorem AppW.wk {e : TypeId} {o : Nat} {u : Value} {b : Option Nat} (h : AppW w w' b e o [u]) (hu : (e = 9 ∧ ∃ s, u = .string s) ∨ (e = 3 ∧ ∃ i, u = .int .i64 i)) : Wk w w' := fun k cs t fz hk => by
 rcases h.block k (lt_of_block hk) with h | ⟨_, cur, h1, h2, h3⟩
 ·exact ⟨cs, h.trans hk, rfl, fun _ => .inl rfl⟩
 ·have e2 := hk.symm.trans h1
  injection e2 with e2
  injection e2 with e3 e4 e5
  subst e3 e4 e5
  simp only [List.length_singleton] at h2 h3
  refine ⟨_, h2, by simp; omega, fun j => ?_⟩
  rw [List.getElem?_toArray]
  have hlen : (cs.toList.take o).length = o := by rw [List.length_take, Array.length_toList]; omega
  rcases Nat.lt_trichotomy j o with hj | hj | hj
  ·left
   rw [List.append_assoc, List.getElem?_append_left (by omega), List.getElem?_take_of_lt hj]
   simp
  ·subst hj
   have : (cs.toList.take j ++ [u] ++ cs.toList.drop (j + 1))[j]? = some u := by
    rw [List.append_assoc, List.getElem?_append_right (by omega), hlen]
    simp
   rcases hu with ⟨q, s, rfl⟩ | ⟨q, i, rfl⟩
   ·exact .inr (.inl ⟨q, s, this⟩)
   ·exact .inr (.inr ⟨q, i, this⟩)
  ·left
   rw [List.getElem?_append_right (by simp; omega)]
   simp only [List.length_append, hlen, List.length_singleton, List.getElem?_drop]
   rw [show o + 1 + (j - (o + 1)) = j by omega]
   simp
end
end Go.Proofs.Ytcolgghllacloaa.Tm
end

section
namespace Go.Proofs.Ytcolgghllacloaa.Tm
open Go.Rf (RowIn strs ints rep nodeT ownL blk Src IsLow IsUp AppW)
open Go.Proofs.Ytcolgghllacloaa.R (okLen okNode Rd RdAt Bt)
open Go.RowKit Go.Proofs.Ytcolgghllacloaa.Q Go.Proofs.YtcolgghllacloaaW.PrintWords Go.Proofs.YtcolgghllacloaaW.PrintLast Go.Proofs.YtcolgghllacloaaW.PrintMore
def small (m : Nat) (n : Nd) : Prop := n.2.1.length ≤ m ∧ n.2.2.1.length ≤ m ∧ n.2.2.2.1.length ≤ m
theorem small.up {m m' : Nat} {n : Nd} (h : small m n) (hm : m ≤ m') : small m' n := by
 unfold small at h ⊢
 omega
def AnyT (w : World) (B : Nat) (v : Value) : Prop := ∃ (root : Int) (g c d : Nat) (N : List Nd), v = .agg #[.int .i64 root, .slice (some ⟨g, d * 4, none⟩) (N.length - d) c] ∧ N.length - d ≤ c ∧ d < N.length ∧ TI w B g N ∧ N.length = 19 ∧ ∀ n ∈ N, small 100 n
structure AF (wz : World) (b0 b2 b3 : Nat) (w : World) : Prop where
 bt : Bt b0 wz w
 c2 : CellsAt w b2 30 #[.int .i64 0, .slice none 0 0]
 c3 : ∃ v0 v1, CellsAt w b3 30 #[v0, v1] ∧ v0.oneCell' = true ∧ v1.oneCell' = true ∧ AnyT w wz.heap.size (.agg #[v0, v1])
 n0 : b0 < wz.heap.size
 n2 : wz.heap.size ≤ b2
 n3 : wz.heap.size ≤ b3
 ne : b2 ≠ b3
structure AT (wz : World) (b0 b2 b3 : Nat) (root : Int) (g c : Nat) (N : List Nd) (w : World) : Prop where
 bt : Bt b0 wz w
 c2 : CellsAt w b2 30 #[.int .i64 0, .slice none 0 0]
 c3 : CellsAt w b3 30 #[.int .i64 root, .slice (some ⟨g, 0, none⟩) 19 c]
 T : TI w wz.heap.size g N
 hN : N.length = 19
 hc : 19 ≤ c
 sm : ∀ n ∈ N, small 50 n
 n0 : b0 < wz.heap.size
 n2 : wz.heap.size ≤ b2
 n3 : wz.heap.size ≤ b3
 ne : b2 ≠ b3
section
variable {wz w w' : World} {b0 b2 b3 g c : Nat} {root : Int} {N N' : List Nd} {o : Oper} {L : List (Nat × Value)}
theorem AT.af (h : AT wz b0 b2 b3 root g c N w) : AF wz b0 b2 b3 w := ⟨h.bt, h.c2, ⟨_, _, h.c3, rfl, rfl, root, g, c, 0, N, by rw [h.hN], by rw [h.hN]; exact h.hc, by rw [h.hN]; omega, h.T, h.hN, fun n hn => (h.sm n hn).up (by omega)⟩, h.n0, h.n2, h.n3, h.ne⟩
theorem AT.below (h : AT wz b0 b2 b3 root g c N w) (m : Below w.heap.size w w') : AT wz b0 b2 b3 root g c N w' := ⟨bt_trans h.bt (bt_of m), h.c2.below m h.c2.lt, h.c3.below m h.c3.lt, h.T.below m, h.hN, h.hc, h.sm, h.n0, h.n2, h.n3, h.ne⟩
theorem AT.draw (h : AT wz b0 b2 b3 root g c N w) (hb : Bt b0 w w') : AT wz b0 b2 b3 root g c N w' := by
 have := h.n0; have := h.n2; have := h.n3
 exact ⟨bt_trans h.bt hb, h.c2.bt hb (by omega), h.c3.bt hb (by omega), h.T.bt hb h.n0, h.hN, h.hc, h.sm, h.n0, h.n2, h.n3, h.ne⟩
theorem AT.inner (h : AT wz b0 b2 b3 root g c N w) {b j : Nat} {t : TypeId} {cs : Array Value} {u : Value} (hc : CellsAt w b t cs) (ht : t ≠ 30) (hb : wz.heap.size ≤ b) (hT : TI (w.setCell ⟨b, j, none⟩ u) wz.heap.size g N') (hN : N'.length = 19) (hs : ∀ n ∈ N', small 100 n) : AF wz b0 b2 b3 (w.setCell ⟨b, j, none⟩ u) := by
 have key : ∀ {b' : Nat} {cs' : Array Value}, CellsAt w b' 30 cs' → b' ≠ b := by
  rintro b' cs' hc' rfl
  have := hc.symm.trans hc'
  injection this with this
  injection this with _ e
  exact ht e
 have hbt := h.bt
 refine ⟨⟨hbt.os, hbt.tape, hbt.output, by have := hbt.size; simpa using this, fun k hk hne => ?_⟩, h.c2.other (key h.c2) _, ⟨_, _, h.c3.other (key h.c3) _, rfl, rfl, root, g, c, 0, N', by rw [hN], by rw [hN]; exact h.hc, by rw [hN]; omega, hT, hN, hs⟩, h.n0, h.n2, h.n3, h.ne⟩
 rw [Below.heap_setCell _ _ _ _ (by show k ≠ b; omega)]
 exact hbt.block k hk hne
theorem AT.wkd (h : AT wz b0 b2 b3 root g c N w) (k : Wk w w') (hz : ∀ k, k < wz.heap.size → w'.heap[k]? = w.heap[k]?) (ho : w'.os = w.os) (ht : w'.tape = w.tape) (hu : w'.output = w.output) (hs : w.heap.size ≤ w'.heap.size) : ∃ N', AT wz b0 b2 b3 root g c N' w' ∧ N'.map lens = N.map lens := by
 obtain ⟨N', hT, hl⟩ := h.T.wk k
 have hlen : N'.length = N.length := by have := congrArg List.length hl; simpa using this
 have hbt := h.bt
 refine ⟨N', ⟨⟨ho.trans hbt.os, ht.trans hbt.tape, hu.trans hbt.output, Nat.le_trans hbt.size hs, fun k hk hne => (hz k hk).trans (hbt.block k hk hne)⟩, k.other h.c2 (by decide) (by decide), k.other h.c3 (by decide) (by decide), hT, hlen.trans h.hN, h.hc, fun n hn => ?_, h.n0, h.n2, h.n3, h.ne⟩, hl⟩
 have : lens n ∈ N.map lens := by rw [← hl]; exact List.mem_map_of_mem hn
 obtain ⟨m, hm, e⟩ := List.mem_map.1 this
 have q := h.sm m hm
 unfold lens at e
 injection e with e1 e
 injection e with e2 e3
 unfold small at q ⊢
 omega
theorem e_root (E : AT wz b0 b2 b3 root g c N w) {x y : Operand} {r : Int} (ho : o.op = .store 3 x y) (hx : ev L x = some (.pointer (some ⟨b3, 0, none⟩))) (hy : ev L y = some (.int .i64 r)) : WY Try.prog o L w fun _ W => AT wz b0 b2 b3 r g c N W :=
 (w_store ho hx hy ((s_int rfl).trans (run_store_at E.c3 (by simp) rfl))).mono fun _ _ h => by
  subst h
  have hbt := E.bt
  have := E.n3
  exact ⟨⟨hbt.os, hbt.tape, hbt.output, by have := hbt.size; simpa using this, fun k hk hne => (Below.heap_setCell _ _ _ _ (by show k ≠ b3; omega)).trans (hbt.block k hk hne)⟩, E.c2.other E.ne _, E.c3.set 0 _, E.T.box E.c3 (by decide) (by decide) (by decide) 0 _, E.hN, E.hc, E.sm, E.n0, E.n2, E.n3, E.ne⟩
theorem s_sn {b j : Nat} {v : Value} (hv : v.oneCell' = true) : (Instr.storeAt 28 (.pointer (some ⟨b, j, none⟩)) v).run Try.prog w = (store ⟨b, j, none⟩ v).run Try.prog w := by cases v <;> (try simp [go_sem, Instr.storeAt]) <;> exact absurd hv Bool.false_ne_true
theorem s_ss {b j : Nat} {v : Value} (hv : v.oneCell' = true) : (Instr.storeAt 62 (.pointer (some ⟨b, j, none⟩)) v).run Try.prog w = (store ⟨b, j, none⟩ v).run Try.prog w := by cases v <;> (try simp [go_sem, Instr.storeAt]) <;> exact absurd hv Bool.false_ne_true
theorem s_si {b j : Nat} {v : Value} (hv : v.oneCell' = true) : (Instr.storeAt 65 (.pointer (some ⟨b, j, none⟩)) v).run Try.prog w = (store ⟨b, j, none⟩ v).run Try.prog w := by cases v <;> (try simp [go_sem, Instr.storeAt]) <;> exact absurd hv Bool.false_ne_true
theorem s_bool {b j : Nat} {v : Value} (hv : v.oneCell' = true) : (Instr.storeAt 4 (.pointer (some ⟨b, j, none⟩)) v).run Try.prog w = (store ⟨b, j, none⟩ v).run Try.prog w := by cases v <;> (try simp [go_sem, Instr.storeAt]) <;> exact absurd hv Bool.false_ne_true
theorem sl_n_lo {b n k m : Nat} (hm : m ≤ n) (hc : n ≤ k) : (Instr.sliceAt 28 (.slice (some ⟨b, 0, none⟩) n k) (some (.int .i64 (m : Int))) none none).run Try.prog w = .ok (.slice (if k = m then some ⟨b, 0, none⟩ else some ⟨b, m * 4, none⟩) (n - m) (k - m)) w := by
 simp [go_sem, Instr.sliceAt, hm, hc]
theorem sl_n_lo1 {b n k : Nat} (hm : 1 < n) (hc : n ≤ k) : (Instr.sliceAt 28 (.slice (some ⟨b, 0, none⟩) n k) (some (.int .i64 1)) none none).run Try.prog w = .ok (.slice (some ⟨b, 1 * 4, none⟩) (n - 1) (k - 1)) w := by
 have := sl_n_lo (w := w) (b := b) (n := n) (k := k) (m := 1) (by omega) hc
 rw [if_neg (by omega)] at this
 exact this
theorem e_cut1 (E : AT wz b0 b2 b3 root g c N w) {x y : Operand} (ho : o.op = .store 28 x y) (hx : ev L x = some (.pointer (some ⟨b3, 1, none⟩))) (hy : ev L y = some (.slice (some ⟨g, 1 * 4, none⟩) (19 - 1) (c - 1))) : WY Try.prog o L w fun _ W => AF wz b0 b2 b3 W :=
 (w_store ho hx hy ((s_sn rfl).trans (run_store_at E.c3 (by simp) rfl))).mono fun _ _ h => by
  subst h
  have hbt := E.bt
  have := E.n3
  have := E.hc
  exact ⟨⟨hbt.os, hbt.tape, hbt.output, by have := hbt.size; simpa using this, fun k hk hne => (Below.heap_setCell _ _ _ _ (by show k ≠ b3; omega)).trans (hbt.block k hk hne)⟩, E.c2.other E.ne _, ⟨_, _, E.c3.set 1 _, rfl, rfl, root, g, c - 1, 1, N, by rw [E.hN], by rw [E.hN]; omega, by rw [E.hN]; omega, E.T.box E.c3 (by decide) (by decide) (by decide) 1 _, E.hN, fun n hn => (E.sm n hn).up (by omega)⟩, E.n0, E.n2, E.n3, E.ne⟩
theorem AT.node (h : AT wz b0 b2 b3 root g c N w) {k : Nat} (hk : k < 19) : ∃ n uK uV uI, N[k]? = some n ∧ w.cell? ⟨g, k * 4, none⟩ = some (.bool n.1) ∧ w.cell? ⟨g, k * 4 + 1, none⟩ = some uK ∧ w.cell? ⟨g, k * 4 + 2, none⟩ = some uV ∧ w.cell? ⟨g, k * 4 + 3, none⟩ = some uI ∧ RowIn w wz.heap.size 9 uK (strs n.2.1) ∧ RowIn w wz.heap.size 9 uV (strs n.2.2.1) ∧ RowIn w wz.heap.size 3 uI (ints n.2.2.2.1) ∧ small 50 n := by
 have hlt : k < N.length := by rw [h.hN]; exact hk
 obtain ⟨cur, h1, h2, h3, h4⟩ := h.T
 obtain ⟨uK, uV, uI, q0, q1, q2, q3, rK, rV, rI⟩ := h4 k N[k] (List.getElem?_eq_getElem hlt)
 exact ⟨N[k], uK, uV, uI, List.getElem?_eq_getElem hlt, (h1.cell _).trans q0, (h1.cell _).trans q1, (h1.cell _).trans q2, (h1.cell _).trans q3, rK, rV, rI, h.sm _ (List.getElem_mem hlt)⟩
structure Kp (b3 g : Nat) (w0 w : World) : Prop where
 c3 : w.heap[b3]? = w0.heap[b3]?
 g : w.heap[g]? = w0.heap[g]?
theorem kp3 {w0 w : World} {j : Nat} {v : Value} (h : Kp b3 g w0 w) (hc : w0.cell? ⟨b3, j, none⟩ = some v) : w.cell? ⟨b3, j, none⟩ = some v := (World.cell?_of_block h.c3).trans hc
theorem kpg {w0 w : World} {j : Nat} {v : Value} (h : Kp b3 g w0 w) (hc : w0.cell? ⟨g, j, none⟩ = some v) : w.cell? ⟨g, j, none⟩ = some v := (World.cell?_of_block h.g).trans hc
theorem Kp.step {w0 w w' : World} (h : Kp b3 g w0 w) (E : AT wz b0 b2 b3 root g c N w) (hk : ∀ k t cs, CellsAt w k t cs → t = 30 ∨ t = 72 → k ≠ b0 → w'.heap[k]? = w.heap[k]?) : Kp b3 g w0 w' := by
 obtain ⟨cur, h1, h2, h3, h4⟩ := E.T
 have := E.n0; have := E.n3
 exact ⟨(hk _ _ _ E.c3 (.inl rfl) (by omega)).trans h.c3, (hk _ _ _ h1 (.inr rfl) (by omega)).trans h.g⟩
theorem Kp.bt {w0 w w' : World} (h : Kp b3 g w0 w) (E : AT wz b0 b2 b3 root g c N w) (hb : Bt b0 w w') : Kp b3 g w0 w' := h.step E fun k _ _ hc _ hne => hb.block k hc.lt hne
theorem rowIn_bt {B id : Nat} {v : Value} {l : List Value} (r : RowIn w B id v l) (hb : Bt b0 w w') (hlt : b0 < B) : RowIn w' B id v l := r.keep fun x hx => hb.block x (r.blk hx).2 (by have := (r.blk hx).1; omega)
theorem RowIn.one1 {B id : Nat} {v : Value} {l : List Value} (r : RowIn w B id v l) : v.oneCell' = true := by
 rcases r with ⟨rfl, _⟩ | ⟨_, _, _, rfl, _⟩ <;> rfl
theorem e_leaf (E : AT wz b0 b2 b3 root g c N w) {k : Nat} (hk : k < 19) {x y : Operand} {q : Bool} (ho : o.op = .store 4 x y) (hx : ev L x = some (.pointer (some ⟨g, k * 4, none⟩))) (hy : ev L y = some (.bool q)) : WY Try.prog o L w fun _ W => AF wz b0 b2 b3 W := by
 obtain ⟨n, uK, uV, uI, hn, e0, e1, e2, e3, rK, rV, rI, sm⟩ := E.node hk
 have hE := E
 obtain ⟨cur, h1, h2, h3, h4⟩ := E.T
 have := hE.hN
 refine (w_store ho hx hy ((s_bool rfl).trans (run_store_at h1 (by omega) rfl))).mono fun _ _ h => ?_
 subst h
 refine hE.inner h1 (by decide) h3 (TI.put1 (j := 0) (n' := (q, n.2)) hE.T hn (by omega) e0 e1 e2 e3 rfl rK rV rI) (by simpa using hE.hN) (fun m hm => ?_)
 rcases List.mem_or_eq_of_mem_set hm with hm | rfl
 ·exact (hE.sm m hm).up (by omega)
 ·exact (show small 50 n from sm).up (by omega)
theorem e_keys (E : AT wz b0 b2 b3 root g c N w) {k : Nat} (hk : k < 19) {x y : Operand} {v : Value} {l : List ByteArray} (ho : o.op = .store 62 x y) (hx : ev L x = some (.pointer (some ⟨g, k * 4 + 1, none⟩))) (hy : ev L y = some v) (hv : RowIn w wz.heap.size 9 v (strs l)) (hl : l.length ≤ 100) : WY Try.prog o L w fun _ W => AF wz b0 b2 b3 W := by
 obtain ⟨n, uK, uV, uI, hn, e0, e1, e2, e3, rK, rV, rI, sm⟩ := E.node hk
 have hE := E
 obtain ⟨cur, h1, h2, h3, h4⟩ := E.T
 have := hE.hN
 refine (w_store ho hx hy ((s_ss (RowIn.one1 hv)).trans (run_store_at h1 (by omega) (RowIn.one1 hv)))).mono fun _ _ h => ?_
 subst h
 refine hE.inner h1 (by decide) h3 (TI.put1 (j := 1) (n' := (n.1, l, n.2.2)) hE.T hn (by omega) e0 e1 e2 e3 rfl hv rV rI) (by simpa using hE.hN) (fun m hm => ?_)
 rcases List.mem_or_eq_of_mem_set hm with hm | rfl
 ·exact (hE.sm m hm).up (by omega)
 ·exact ⟨hl, Nat.le_trans sm.2.1 (by omega), Nat.le_trans sm.2.2 (by omega)⟩
theorem e_kids (E : AT wz b0 b2 b3 root g c N w) {k : Nat} (hk : k < 19) {x y : Operand} {v : Value} {l : List Int} (ho : o.op = .store 65 x y) (hx : ev L x = some (.pointer (some ⟨g, k * 4 + 3, none⟩))) (hy : ev L y = some v) (hv : RowIn w wz.heap.size 3 v (ints l)) (hl : l.length ≤ 100) : WY Try.prog o L w fun _ W => AF wz b0 b2 b3 W := by
 obtain ⟨n, uK, uV, uI, hn, e0, e1, e2, e3, rK, rV, rI, sm⟩ := E.node hk
 have hE := E
 obtain ⟨cur, h1, h2, h3, h4⟩ := E.T
 have := hE.hN
 refine (w_store ho hx hy ((s_si (RowIn.one1 hv)).trans (run_store_at h1 (by omega) (RowIn.one1 hv)))).mono fun _ _ h => ?_
 subst h
 refine hE.inner h1 (by decide) h3 (TI.put1 (j := 3) (n' := (n.1, n.2.1, n.2.2.1, l, ())) hE.T hn (by omega) e0 e1 e2 e3 rfl rK rV hv) (by simpa using hE.hN) (fun m hm => ?_)
 rcases List.mem_or_eq_of_mem_set hm with hm | rfl
 ·exact (hE.sm m hm).up (by omega)
 ·exact ⟨Nat.le_trans sm.1 (by omega), Nat.le_trans sm.2.1 (by omega), hl⟩
theorem w_appw {P : Program} {s x : Operand} {t e : TypeId} {i : TypeInfo} {z u v : Value} {n m : Nat} {xs news : List Value} (ho : o.op = .call { callee := .builtin .append, args := #[s, x], argTypes := #[t, t] }) (ht : P.underlying t = some (.slice e)) (hi : P.info? e = some i) (hz : i.zero = some z) (hzs : z.cells.size = i.size)
  (hs : ev L s = some v) (hown : ownL w e i.size v n xs) (hx : ev L x = some u) (hsrc : Src P w i.size u m news) (h63 : n + m ≤ maxLen) (hbytes : (n + m) * i.bytes ≤ 140737488355328) :
  WY P o L w fun v' w' => ownL w' e i.size v' (n + m) (xs ++ news) ∧ AppW w w' (blk v) e (n * i.size) news ∧ (∀ b, blk v' = some b → blk v = some b ∨ w.heap.size ≤ b) := fun a k hT K Q hK => by
 obtain ⟨v', w', hr, h2, h3, h4, h5⟩ := Go.Rf.run_append_wk (P := P) (ty := o.type) ht ht (.inl ⟨_, rfl⟩) hi hz hzs hown hsrc h63 hbytes
 unfold Oper.wp execOp
 simp only [ho, resolve, invoke, builtin, Sem.run_bind, Sem.run_pure, Result.andThen_ok, List.map_toArray, List.map_cons, List.map_nil, hT.ev hs, hT.ev hx, hr]
 exact hK _ _ ⟨h2, h3, h4⟩
theorem AT.app (E : AT wz b0 b2 b3 root g c N w) {b : Option Nat} {e : TypeId} {p : Nat} {u : Value} (h : AppW w w' b e p [u]) (hb : ∀ x, b = some x → wz.heap.size ≤ x) (hu : (e = 9 ∧ ∃ s, u = .string s) ∨ (e = 3 ∧ ∃ i, u = .int .i64 i)) : (∃ N', AT wz b0 b2 b3 root g c N' w' ∧ N'.map lens = N.map lens) ∧ ∀ {w0 : World}, Kp b3 g w0 w → Kp b3 g w0 w' := by
 refine ⟨E.wkd (AppW.wk h hu) (fun k hk => ?_) h.os h.tape h.output h.size, fun {w0} hk => hk.step E fun k t cs hc ht _ => ?_⟩
 ·rcases h.block k (by have := E.bt.size; omega) with h | ⟨h1, _⟩
  ·exact h
  ·have := hb k h1; omega
 ·rcases h.block k hc.lt with h | ⟨h1, cur, h2, _⟩
  ·exact h
  ·exfalso
   have e2 := hc.symm.trans h2
   injection e2 with e2
   injection e2 with _ e3
   subst e3
   rcases hu with ⟨rfl, _⟩ | ⟨rfl, _⟩ <;> rcases ht with h | h <;> exact absurd h (by decide)
theorem at_s1 {s x : Operand} {u v : Value} {l : List ByteArray} (E : AT wz b0 b2 b3 root g c N w) (ho : o.op = .call { callee := .builtin .append, args := #[s, x], argTypes := #[62, 62] }) (hs : ev L s = some v) (hx : ev L x = some u) (hv : RowIn w wz.heap.size 9 v (strs l)) (hu : (RD.s u 1).ok w wz.heap.size) (hl : l.length ≤ 90) :
  WY Try.prog o L w fun v' w' => (∃ l', l'.length = l.length + 1 ∧ RowIn w' wz.heap.size 9 v' (strs l')) ∧ (∃ N', AT wz b0 b2 b3 root g c N' w' ∧ N'.map lens = N.map lens) ∧ ∀ {w0 : World}, Kp b3 g w0 w → Kp b3 g w0 w' := by
 obtain ⟨i0, hi0, hz0, hz1, hz2⟩ := info_split info_str
 obtain ⟨Y, hY1, hY⟩ := hu
 match Y, hY1 with
 | [q], _ =>
 have hxl : (strs l).length = l.length := List.length_map _
 have hO := RowIn.own hv
 have hSr := SlAt.src (P := Try.prog) (RowIn.sl hY (strs_one _))
 rw [hxl] at hO
 refine (w_appw (P := Try.prog) (i := i0) ho Try.underlying62 hi0 hz0 (by rw [hz1]; rfl) hs (by rw [hz1]; exact hO) hx (by rw [hz1]; exact hSr) (by unfold maxLen; simp [Go.Rf.strs]; omega) (by rw [hz2]; simp [Go.Rf.strs]; omega)).mono ?_
 rintro v' w' ⟨h1, h2, h3⟩
 have hb : ∀ x, blk v = some x → wz.heap.size ≤ x := fun x hx => (hv.blk hx).1
 rw [hz1] at h1
 have e : strs l ++ strs [q] = strs (l ++ [q]) := List.map_append.symm
 rw [e] at h1
 obtain ⟨h4, h5⟩ := E.app h2 hb (.inl ⟨rfl, q, rfl⟩)
 exact ⟨⟨l ++ [q], by simp, rowIn_of h1 (fun b hb' => (h3 b hb').elim (fun e => hb b e) (fun e => Nat.le_trans E.bt.size e))⟩, h4, h5⟩
theorem at_i1 {s x : Operand} {u v : Value} {l : List Int} {q : Int} (E : AT wz b0 b2 b3 root g c N w) (ho : o.op = .call { callee := .builtin .append, args := #[s, x], argTypes := #[65, 65] }) (hs : ev L s = some v) (hx : ev L x = some u) (hv : RowIn w wz.heap.size 3 v (ints l)) (hu : (RD.i u [q]).ok w wz.heap.size) (hl : l.length ≤ 90) :
  WY Try.prog o L w fun v' w' => (∃ l', l'.length = l.length + 1 ∧ RowIn w' wz.heap.size 3 v' (ints l')) ∧ (∃ N', AT wz b0 b2 b3 root g c N' w' ∧ N'.map lens = N.map lens) ∧ ∀ {w0 : World}, Kp b3 g w0 w → Kp b3 g w0 w' := by
 obtain ⟨i0, hi0, hz0, hz1, hz2⟩ := info_split info_int
 have hxl : (ints l).length = l.length := List.length_map _
 have hO := RowIn.own hv
 have hSr := SlAt.src (P := Try.prog) (RD.si hu)
 rw [hxl] at hO
 refine (w_appw (P := Try.prog) (i := i0) ho Try.underlying65 hi0 hz0 (by rw [hz1]; rfl) hs (by rw [hz1]; exact hO) hx (by rw [hz1]; exact hSr) (by unfold maxLen; simp [Go.Rf.ints]; omega) (by rw [hz2]; simp [Go.Rf.ints]; omega)).mono ?_
 rintro v' w' ⟨h1, h2, h3⟩
 have hb : ∀ x, blk v = some x → wz.heap.size ≤ x := fun x hx => (hv.blk hx).1
 rw [hz1] at h1
 have e : ints l ++ ints [q] = ints (l ++ [q]) := List.map_append.symm
 rw [e] at h1
 obtain ⟨h4, h5⟩ := E.app h2 hb (.inr ⟨rfl, q, rfl⟩)
 exact ⟨⟨l ++ [q], by simp, rowIn_of h1 (fun b hb' => (h3 b hb').elim (fun e => hb b e) (fun e => Nat.le_trans E.bt.size e))⟩, h4, h5⟩
theorem e_key0 (E : AT wz b0 b2 b3 root g c N w) {x y : Operand} {X j n cp : Nat} {s : ByteArray} {l : List Value} (ho : o.op = .store 9 x y) (hx : ev L x = some (.pointer (some ⟨X, j, none⟩))) (hy : ev L y = some (.string s)) (hv : RowIn w wz.heap.size 9 (.slice (some ⟨X, 0, none⟩) n cp) l) (hj : j < n) : WY Try.prog o L w fun _ W => AF wz b0 b2 b3 W := by
 rcases hv with ⟨h, _⟩ | ⟨X', cap, cur, e, hb, hc, h1, h2, h3, h4⟩
 ·cases h
 ·injection e with e1 e2 e3
  injection e1 with e1
  injection e1 with e1
  subst e1 e2 e3
  have hc : CellsAt w X 9 cur := hc
  refine (w_store ho hx hy ((s_str rfl).trans (run_store_at hc (by omega) rfl))).mono fun _ _ h => ?_
  subst h
  obtain ⟨N', E', _⟩ := E.wkd (wk_set (j := j) hc (.inl ⟨rfl, s, rfl⟩)) (fun k hk => Below.heap_setCell _ _ _ _ (by show k ≠ X; omega)) rfl rfl rfl (by simp)
  exact E'.af
theorem e_kid0 (E : AT wz b0 b2 b3 root g c N w) {x y : Operand} {X j n cp : Nat} {s : Int} {l : List Value} (ho : o.op = .store 3 x y) (hx : ev L x = some (.pointer (some ⟨X, j, none⟩))) (hy : ev L y = some (.int .i64 s)) (hv : RowIn w wz.heap.size 3 (.slice (some ⟨X, 0, none⟩) n cp) l) (hj : j < n) : WY Try.prog o L w fun _ W => AF wz b0 b2 b3 W := by
 rcases hv with ⟨h, _⟩ | ⟨X', cap, cur, e, hb, hc, h1, h2, h3, h4⟩
 ·cases h
 ·injection e with e1 e2 e3
  injection e1 with e1
  injection e1 with e1
  subst e1 e2 e3
  have hc : CellsAt w X 3 cur := hc
  refine (w_store ho hx hy ((s_int rfl).trans (run_store_at hc (by omega) rfl))).mono fun _ _ h => ?_
  subst h
  obtain ⟨N', E', _⟩ := E.wkd (wk_set (j := j) hc (.inr ⟨rfl, s, rfl⟩)) (fun k hk => Below.heap_setCell _ _ _ _ (by show k ≠ X; omega)) rfl rfl rfl (by simp)
  exact E'.af
theorem AnyT.tbox {v : Value} {B b j : Nat} {cs : Array Value} {u : Value} (h : AnyT w B v) (hc : CellsAt w b 30 cs) : AnyT (w.setCell ⟨b, j, none⟩ u) B v := by
 obtain ⟨root, g, c, d, N, e, h1, h2, h3, h4, h5⟩ := h
 exact ⟨root, g, c, d, N, e, h1, h2, h3.box hc (by decide) (by decide) (by decide) _ _, h4, h5⟩
theorem e_at (E : AF wz b0 b2 b3 w) {x y : Operand} {v0 v1 : Value} (h0 : v0.oneCell' = true) (h1 : v1.oneCell' = true) (hv : AnyT w wz.heap.size (.agg #[v0, v1])) (ho : o.op = .store 30 x y) (hx : ev L x = some (.pointer (some ⟨b2, 0, none⟩))) (hy : ev L y = some (.agg #[v0, v1])) : WY Try.prog o L w fun _ W => CellsAt W b2 30 #[v0, v1] ∧ AnyT W wz.heap.size (.agg #[v0, v1]) ∧ Bt b0 wz W := by
 refine (w_store ho hx hy (s_tree E.c2 (by simp) h0 h1)).mono fun _ _ h => ?_
 subst h
 have hbt := E.bt
 have := E.n2
 refine ⟨(E.c2.set 0 v0).set 1 v1, AnyT.tbox (hv.tbox E.c2) (E.c2.set 0 v0), ⟨hbt.os, hbt.tape, hbt.output, by have := hbt.size; simpa using this, fun k hk hne => ?_⟩⟩
 rw [Below.heap_setCell _ _ _ _ (by show k ≠ b2; omega), Below.heap_setCell _ _ _ _ (by show k ≠ b2; omega)]
 exact hbt.block k hk hne
end
end Go.Proofs.Ytcolgghllacloaa.Tm
end

section
namespace Go.Proofs.Ytcolgghllacloaa.Tm
open Go.Rf (RowIn strs ints rep nodeT ownL blk Src IsLow IsUp AppW)
open Go.Proofs.Ytcolgghllacloaa.R (okLen okNode Rd RdAt Bt)
open Go.RowKit Go.Proofs.Ytcolgghllacloaa.Q Go.Proofs.YtcolgghllacloaaW.PrintWords Go.Proofs.YtcolgghllacloaaW.PrintLast Go.Proofs.YtcolgghllacloaaW.PrintMore
set_option maxRecDepth 100000 in
set_option maxHeartbeats 4000000 in
theorem anyTree_any (wz : World) (b0 : Nat) (bs : List Int) (p0 : Nat) (hb : Rd bs) (hp0 : p0 ≤ 100) (h0 : RdAt wz b0 bs p0) : Calls Try.prog 32 #[.pointer (some ⟨b0, 0, none⟩)] wz (Ans fun v w' => AnyT w' wz.heap.size v ∧ Bt b0 wz w') := by
 have hlt0 := h0.lt
 refine enter (args := [.pointer (some ⟨b0, 0, none⟩)]) Try.func32 rfl Try.ntmps32 rfl ?_
 intro x hT
 refine wp_seq ?_
 refine wp_region_lit ?_
 refine L_w hT rfl rfl rfl (e_new rfl) ?_
 rintro _ w ⟨b2, rfl, hb2, C2, m0⟩ x hT
 refine wpList_nil ?_
 have hP : p0 ≤ 100 := hp0
 have hz2 := m0.size
 have hbt : Bt b0 wz w := bt_of m0
 show Code.wp _ _ _ _ _
 refine wp_seq ?_
 refine wp_region_lit ?_
 refine lq hT (q_move rfl rfl) fun x hT => ?_
 refine L_w hT rfl rfl rfl (w_callN rfl rfl (by kernel_rfl) (args := [_]) rfl (tree_any w b0 bs p0 hb hp0 (h0.below m0))) ?_
 rintro v w ⟨hv, ⟨p, hp, hr⟩, hb2t⟩ x hT
 have C2 := C2.bt hb2t (by omega)
 have hbt := bt_trans hbt hb2t
 have hv := hv.weaken hz2
 refine L_w hT rfl rfl rfl (e_new rfl) ?_
 rintro _ w ⟨b3, rfl, hb3, C3, m⟩ x hT
 have h23 : b2 < b3 := (by have := C2.lt; omega)
 have C2 := C2.below m C2.lt
 have hv := hv.below m
 have hr := hr.below m
 have hz3 := hbt.size
 have hbt := bt_trans hbt (bt_of m)
 refine L_s hT rfl rfl (e_tb rfl rfl rfl C3 hv) ?_
 rintro _ w ⟨tb, hk, m⟩
 refine wpList_nil ?_
 have C2 : CellsAt w b2 _ _ := (hk b2 (by omega)).trans C2
 have hr : RdAt w b0 bs p := rd_but hr C3 (fun j x => by
  match j with
  | 0 => intro h; simp at h
  | 1 => intro h; simp at h
  | j + 2 => simp) (by omega) hk m.size
 have hbt : Bt b0 wz w := ⟨m.os.trans hbt.os, m.tape.trans hbt.tape, m.output.trans hbt.output, Nat.le_trans hbt.size m.size, fun k h1 h2 => (hk k (by omega)).trans (hbt.block k h1 h2)⟩
 obtain ⟨v0, v1, C3, _, _, rt, g, c, S, lv, e, hc, ⟨N, hN, hNS⟩, hw⟩ := tb
 injection e with e
 have e := congrArg Array.toList e
 simp only [List.cons.injEq, and_true] at e
 obtain ⟨rfl, rfl⟩ := e
 subst hNS
 have hl := hw.len
 have hlN : N.length = 19 := by rw [List.length_map] at hl; exact hl
 rw [hl] at C3 hc
 have E : AT wz b0 b2 b3 (rt : Int) g c N w := ⟨hbt, C2, C3, hN, hlN, hc, fun n hn => by
  obtain ⟨i, hi⟩ := List.getElem?_of_mem hn
  have hs : (N.map sk)[i]? = some (sk n) := by rw [List.getElem?_map, hi]; rfl
  have h4 : n.2.1.length ≤ 4 := hw.four i _ hs
  by_cases hz : sk n = zS
  ·have e1 : n.2.2.1.length = 0 := congrArg (fun s : Sk => s.2.2.1) hz
   have e2 : n.2.2.2.1 = [] := congrArg (fun s : Sk => s.2.2.2) hz
   exact ⟨by omega, by omega, by rw [e2]; simp⟩
  ·obtain ⟨lf, aK, aV, aI, e, h1, h2⟩ := hw.shape hs hz
   have e1 : n.2.1.length = aK := congrArg (fun s : Sk => s.2.1) e
   have e2 : n.2.2.1.length = aV := congrArg (fun s : Sk => s.2.2.1) e
   have e3 : n.2.2.2.1 = aI := congrArg (fun s : Sk => s.2.2.2) e
   unfold small
   rw [e3]
   cases lf with
   | true => obtain ⟨a, b, _⟩ := h1 rfl; rw [b]; exact ⟨by omega, by omega, by simp⟩
   | false => obtain ⟨a, b, _⟩ := h2 rfl; exact ⟨by omega, by omega, by omega⟩, hlt0, by omega, by omega, by omega⟩
 have hrt0 : rt < N.length := by
  obtain ⟨s, hs, _⟩ := hw.rt
  have := (List.getElem?_eq_some_iff.1 hs).1
  rw [List.length_map] at this
  exact this
 clear hv hk C2 C3 hbt hN hb2t m0
 show Code.wp _ _ _ _ _
 refine wp_seq ?_
 have t1 : w.cell? ⟨b3, 1, none⟩ = some (.slice (some ⟨g, 0, none⟩) 19 c) := E.c3.cell 1
 refine wp_region_lit ?_
 refine lq hT (q_move rfl rfl) fun x hT => ?_
 refine lq hT (q_field rfl rfl fT rfl) fun x hT => ?_
 refine lq hT (q_load rfl rfl (l_sn t1)) fun x hT => ?_
 refine lq hT (q_len rfl Try.underlying28 rfl) fun x hT => ?_
 refine L_w hT rfl rfl rfl (w_callN rfl rfl (by kernel_rfl) (args := [_, _]) rfl (c_pick hb (by omega) hr ((19 : Nat) : Int))) ?_
 rintro _ w ⟨v, rfl, hv0, hv1, hr, hbt⟩ x hT
 have E := E.draw hbt
 refine lq hT (q_assign rfl rfl) fun x hT => ?_
 refine wpList_nil ?_
 obtain ⟨k, rfl, hk⟩ : ∃ k : Nat, v = (k : Int) ∧ k < 19 := ⟨v.toNat, by omega, by have := hv1 (by omega); omega⟩
 show Code.wp _ _ _ _ _
 refine wp_seq ?_
 refine wp_seq ?_
 refine wp_region_lit ?_
 refine lq hT (q_move rfl rfl) fun x hT => ?_
 refine L_w hT rfl rfl rfl (w_callN rfl rfl (by kernel_rfl) (args := [_, _]) rfl (c_pick hb (by omega) hr 24)) ?_
 rintro _ w ⟨v, rfl, _, _, hr, hbt⟩ x hT
 have E := E.draw hbt
 refine wpList_nil ?_
 clear hbt t1
 show Code.wp _ _ _ _ _
 refine wp_cut (fun x w => Tm x 116 [(0, .pointer (some ⟨b0, 0, none⟩)), (2, .pointer (some ⟨b2, 0, none⟩)), (3, .pointer (some ⟨b3, 0, none⟩))] ∧ AF wz b0 b2 b3 w) ?_ ?_
 ·refine wp_block ?_
  refine wp_seq ?_
  refine wp_region_lit ?_
  refine lq hT (q_bin rfl rfl rfl n_eq) fun x hT => ?_
  refine lq hT (q_assign rfl rfl) fun x hT => ?_
  refine wpList_nil ?_
  show Code.wp _ _ _ _ _
  refine wp_cond_split (hT.ev rfl) (fun h => ?_) (fun h => ?_)
  ·-- the root
   refine wp_region_lit ?_
   refine lq hT (q_move rfl rfl) fun x hT => ?_
   refine L_w hT rfl rfl rfl (lit_ints [-1, 19, 1] rfl (by intro a w; simp [go_sem, Instr.buildSlice, Instr.fill, Act.eval]) rfl (by omega)) ?_
   rintro _ w ⟨r10, m⟩ x hT
   refine L_w hT rfl rfl rfl (w_callN rfl rfl (by kernel_rfl) (args := [_, _]) rfl (c_one hb (by omega) hr m (by decide) r10)) ?_
   rintro _ w ⟨v, rfl, hv, hr, hbt⟩ x hT
   have E := E.draw hbt
   refine lq hT (q_field rfl rfl fT rfl) fun x hT => ?_
   refine L_s hT rfl rfl (e_root E rfl rfl rfl) ?_
   rintro _ w E
   refine wpList_nil ?_
   exact ⟨rfl, hT.sel [0, 2, 3], E.af⟩
  show Code.wp _ _ _ _ _
  refine wp_seq ?_
  refine wp_region_lit ?_
  refine lq hT (q_bin rfl rfl rfl n_eq) fun x hT => ?_
  refine lq hT (q_assign rfl rfl) fun x hT => ?_
  refine wpList_nil ?_
  show Code.wp _ _ _ _ _
  refine wp_cond_split (hT.ev rfl) (fun h => ?_) (fun h => ?_)
  ·have t1 : w.cell? ⟨b3, 1, none⟩ = some (.slice (some ⟨g, 0, none⟩) 19 c) := E.c3.cell 1
   have hc := E.hc
   refine wp_region_lit ?_
   refine lq hT (q_field rfl rfl fT rfl) fun x hT => ?_
   refine lq hT (q_load rfl rfl (l_sn t1)) fun x hT => ?_
   refine lq hT (q_slice rfl rfl (LO := some _) (HI := none) rfl rfl (sl_n_lo1 (by omega) hc)) fun x hT => ?_
   refine lq hT (q_field rfl rfl fT rfl) fun x hT => ?_
   refine L_s hT rfl rfl (e_cut1 E rfl rfl rfl) ?_
   rintro _ w E
   refine wpList_nil ?_
   exact ⟨rfl, hT.sel [0, 2, 3], E⟩
  show Code.wp _ _ _ _ _
  refine wp_seq ?_
  refine wp_region_lit ?_
  refine lq hT (q_bin rfl rfl rfl n_eq) fun x hT => ?_
  refine lq hT (q_assign rfl rfl) fun x hT => ?_
  refine wpList_nil ?_
  show Code.wp _ _ _ _ _
  refine wp_cond_split (hT.ev rfl) (fun h => ?_) (fun h => ?_)
  ·obtain ⟨n, uK, uV, uI, hn, e0, e1, e2, e3, rK, rV, rI, sm⟩ := E.node hk
   have t1 : w.cell? ⟨b3, 1, none⟩ = some (.slice (some ⟨g, 0, none⟩) 19 c) := E.c3.cell 1
   have hr := hr.below (below_drew w)
   have rK := rK.below (below_drew w)
   refine wp_region_M (n := 16) (Kp b3 g w.drew) [0, 1, 2, 3, 4, 5, 6, 7, 8, 9, 10, 11, 12, 13, 14] [] (by kernel_rfl) rfl ?_
   have hS := (⟨rfl, rfl⟩ : Kp b3 g w.drew w.drew)
   have E0 := E.below (below_drew w)
   have E := E0
   refine mQ 0 [1, 13, 14, 15] hT hS rfl (fun w' hw => q_field rfl rfl fT rfl) fun x hT => ?_
   refine mQ 1 [13, 14, 15] hT hS rfl (fun w' hw => q_load rfl rfl (l_sn (kp3 hw t1))) fun x hT => ?_
   refine mQ 2 [13, 14, 15] hT hS rfl (fun w' hw => q_move rfl rfl) fun x hT => ?_
   refine mQ 3 [4, 6, 7, 8, 12, 13, 14, 15] hT hS rfl (fun w' hw => q_field rfl rfl fT rfl) fun x hT => ?_
   refine mQ 4 [6, 7, 8, 12, 13, 14, 15] hT hS rfl (fun w' hw => q_load rfl rfl (l_sn (kp3 hw t1))) fun x hT => ?_
   refine mQ 5 [6, 7, 8, 12, 13, 14, 15] hT hS rfl (fun w' hw => q_move rfl rfl) fun x hT => ?_
   refine mQ 6 [7, 8, 12, 13, 14, 15] hT hS rfl (fun w' hw => q_index rfl rfl rfl (i_node (by omega))) fun x hT => ?_
   refine mQ 7 [8, 12, 13, 14, 15] hT hS rfl (fun w' hw => q_field rfl rfl fN rfl) fun x hT => ?_
   refine mQ 8 [12, 13, 14, 15] hT hS rfl (fun w' hw => q_load rfl rfl (l_ss (kpg hw e1))) fun x hT => ?_
   refine mQ 9 [10, 11, 12, 13, 14, 15] hT hS rfl (fun w' hw => q_move rfl rfl) fun x hT => ?_
   refine M_one 10 (by kernel_rfl) ?_
   refine at_w hT rfl rfl rfl rfl (w_callN rfl rfl (by kernel_rfl) (args := [_]) rfl (c_key hb (by omega) hr)) ?_
   rintro _ w ⟨s, rfl, hr, hbt⟩ x hT
   have hS := hS.bt E hbt
   have E := E.draw hbt
   have rK := rowIn_bt rK hbt hlt0
   refine ⟨fun _ _ => hS, ?_⟩
   refine M_one 11 (by kernel_rfl) ?_
   refine at_w hT rfl rfl rfl rfl (lit_s rfl rfl E.bt.size) ?_
   rintro _ w ⟨r39, m⟩ x hT
   have hS := hS.bt E (bt_of m)
   have E := E.below m
   have rK := rK.below m
   refine ⟨fun _ _ => hS, ?_⟩
   refine M_one 12 (by kernel_rfl) ?_
   refine at_w hT rfl rfl rfl rfl (at_s1 E rfl rfl rfl rK r39 (Nat.le_trans sm.1 (by omega))) ?_
   rintro _ w ⟨⟨l, hl, rl⟩, ⟨N', E, _⟩, hS'⟩ x hT
   have hS := hS' hS
   refine ⟨fun _ _ => hS, ?_⟩
   refine mQ 13 [14, 15] hT hS rfl (fun w' hw => q_index rfl rfl rfl (i_node (by omega))) fun x hT => ?_
   refine mQ 14 [15] hT hS rfl (fun w' hw => q_field rfl rfl fN rfl) fun x hT => ?_
   refine M_one 15 (by kernel_rfl) ?_
   refine at_s hT rfl rfl rfl (e_keys E hk rfl rfl rfl rl (by have := sm.1; omega)) ?_
   rintro _ w E
   refine ⟨fun h => absurd h (by decide), ?_⟩
   refine M_end (by kernel_rfl) ?_
   exact ⟨rfl, hT.sel [0, 2, 3], E⟩
  show Code.wp _ _ _ _ _
  refine wp_seq ?_
  refine wp_region_lit ?_
  refine lq hT (q_bin rfl rfl rfl n_eq) fun x hT => ?_
  refine lq hT (q_assign rfl rfl) fun x hT => ?_
  refine wpList_nil ?_
  show Code.wp _ _ _ _ _
  refine wp_cond_split (hT.ev rfl) (fun h => ?_) (fun h => ?_)
  ·obtain ⟨n, uK, uV, uI, hn, e0, e1, e2, e3, rK, rV, rI, sm⟩ := E.node hk
   have t1 : w.cell? ⟨b3, 1, none⟩ = some (.slice (some ⟨g, 0, none⟩) 19 c) := E.c3.cell 1
   have hr := hr.below (below_drew w)
   have rI := rI.below (below_drew w)
   refine wp_region_M (n := 17) (Kp b3 g w.drew) [0, 1, 2, 3, 4, 5, 6, 7, 8, 9, 10, 11, 12, 13, 14, 15] [] (by kernel_rfl) rfl ?_
   have hS := (⟨rfl, rfl⟩ : Kp b3 g w.drew w.drew)
   have E0 := E.below (below_drew w)
   have E := E0
   refine mQ 0 [1, 14, 15, 16] hT hS rfl (fun w' hw => q_field rfl rfl fT rfl) fun x hT => ?_
   refine mQ 1 [14, 15, 16] hT hS rfl (fun w' hw => q_load rfl rfl (l_sn (kp3 hw t1))) fun x hT => ?_
   refine mQ 2 [14, 15, 16] hT hS rfl (fun w' hw => q_move rfl rfl) fun x hT => ?_
   refine mQ 3 [4, 6, 7, 8, 13, 14, 15, 16] hT hS rfl (fun w' hw => q_field rfl rfl fT rfl) fun x hT => ?_
   refine mQ 4 [6, 7, 8, 13, 14, 15, 16] hT hS rfl (fun w' hw => q_load rfl rfl (l_sn (kp3 hw t1))) fun x hT => ?_
   refine mQ 5 [6, 7, 8, 13, 14, 15, 16] hT hS rfl (fun w' hw => q_move rfl rfl) fun x hT => ?_
   refine mQ 6 [7, 8, 13, 14, 15, 16] hT hS rfl (fun w' hw => q_index rfl rfl rfl (i_node (by omega))) fun x hT => ?_
   refine mQ 7 [8, 13, 14, 15, 16] hT hS rfl (fun w' hw => q_field rfl rfl fN rfl) fun x hT => ?_
   refine mQ 8 [13, 14, 15, 16] hT hS rfl (fun w' hw => q_load rfl rfl (l_si (kpg hw e3))) fun x hT => ?_
   refine mQ 9 [10, 11, 12, 13, 14, 15, 16] hT hS rfl (fun w' hw => q_move rfl rfl) fun x hT => ?_
   refine M_one 10 (by kernel_rfl) ?_
   refine at_w hT rfl rfl rfl rfl (w_callN rfl rfl (by kernel_rfl) (args := [_, _]) rfl (c_pick hb (by omega) hr 20)) ?_
   rintro _ w ⟨q, rfl, hq0, hq1, hr, hbt⟩ x hT
   have hS := hS.bt E hbt
   have E := E.draw hbt
   have rI := rowIn_bt rI hbt hlt0
   refine ⟨fun _ _ => hS, ?_⟩
   refine mQ 11 [12, 13, 14, 15, 16] hT hS rfl (fun w' hw => q_bin rfl rfl rfl (n_subI ⟨by omega, by have := hq1 (by omega); omega⟩)) fun x hT => ?_
   refine M_one 12 (by kernel_rfl) ?_
   refine at_w hT rfl rfl rfl rfl (lit_i1 rfl rfl E.bt.size) ?_
   rintro _ w ⟨r39, m⟩ x hT
   have hS := hS.bt E (bt_of m)
   have E := E.below m
   have rI := rI.below m
   refine ⟨fun _ _ => hS, ?_⟩
   refine M_one 13 (by kernel_rfl) ?_
   refine at_w hT rfl rfl rfl rfl (at_i1 E rfl rfl rfl rI r39 (Nat.le_trans sm.2.2 (by omega))) ?_
   rintro _ w ⟨⟨l, hl, rl⟩, ⟨N', E, _⟩, hS'⟩ x hT
   have hS := hS' hS
   refine ⟨fun _ _ => hS, ?_⟩
   refine mQ 14 [15, 16] hT hS rfl (fun w' hw => q_index rfl rfl rfl (i_node (by omega))) fun x hT => ?_
   refine mQ 15 [16] hT hS rfl (fun w' hw => q_field rfl rfl fN rfl) fun x hT => ?_
   refine M_one 16 (by kernel_rfl) ?_
   refine at_s hT rfl rfl rfl (e_kids E hk rfl rfl rfl rl (by have := sm.2.2; omega)) ?_
   rintro _ w E
   refine ⟨fun h => absurd h (by decide), ?_⟩
   refine M_end (by kernel_rfl) ?_
   exact ⟨rfl, hT.sel [0, 2, 3], E⟩
  show Code.wp _ _ _ _ _
  refine wp_seq ?_
  refine wp_region_lit ?_
  refine lq hT (q_bin rfl rfl rfl n_eq) fun x hT => ?_
  refine lq hT (q_assign rfl rfl) fun x hT => ?_
  refine wpList_nil ?_
  show Code.wp _ _ _ _ _
  refine wp_cond_split (hT.ev rfl) (fun h => ?_) (fun h => ?_)
  ·obtain ⟨n, uK, uV, uI, hn, e0, e1, e2, e3, rK, rV, rI, sm⟩ := E.node hk
   have t1 : w.cell? ⟨b3, 1, none⟩ = some (.slice (some ⟨g, 0, none⟩) 19 c) := E.c3.cell 1
   refine wp_region_M (n := 13) (Kp b3 g w.drew) [0, 1, 2, 3, 4, 5, 6, 7, 8, 9, 10, 11] [] (by kernel_rfl) rfl ?_
   have hS := (⟨rfl, rfl⟩ : Kp b3 g w.drew w.drew)
   have E0 := E.below (below_drew w)
   have E := E0
   refine mQ 0 [1, 10, 11, 12] hT hS rfl (fun w' hw => q_field rfl rfl fT rfl) fun x hT => ?_
   refine mQ 1 [10, 11, 12] hT hS rfl (fun w' hw => q_load rfl rfl (l_sn (kp3 hw t1))) fun x hT => ?_
   refine mQ 2 [10, 11, 12] hT hS rfl (fun w' hw => q_move rfl rfl) fun x hT => ?_
   refine mQ 3 [4, 6, 7, 8, 9, 10, 11, 12] hT hS rfl (fun w' hw => q_field rfl rfl fT rfl) fun x hT => ?_
   refine mQ 4 [6, 7, 8, 9, 10, 11, 12] hT hS rfl (fun w' hw => q_load rfl rfl (l_sn (kp3 hw t1))) fun x hT => ?_
   refine mQ 5 [6, 7, 8, 9, 10, 11, 12] hT hS rfl (fun w' hw => q_move rfl rfl) fun x hT => ?_
   refine mQ 6 [7, 8, 9, 10, 11, 12] hT hS rfl (fun w' hw => q_index rfl rfl rfl (i_node (by omega))) fun x hT => ?_
   refine mQ 7 [8, 9, 10, 11, 12] hT hS rfl (fun w' hw => q_field rfl rfl fN rfl) fun x hT => ?_
   refine mQ 8 [9, 10, 11, 12] hT hS rfl (fun w' hw => q_load rfl rfl (l_bool (kpg hw e0))) fun x hT => ?_
   refine mQ 9 [10, 11, 12] hT hS rfl (fun w' hw => q_not rfl rfl) fun x hT => ?_
   refine mQ 10 [11, 12] hT hS rfl (fun w' hw => q_index rfl rfl rfl (i_node (by omega))) fun x hT => ?_
   refine mQ 11 [12] hT hS rfl (fun w' hw => q_field rfl rfl fN rfl) fun x hT => ?_
   refine M_one 12 (by kernel_rfl) ?_
   refine at_s hT rfl rfl rfl (e_leaf E hk rfl rfl rfl) ?_
   rintro _ w E
   refine ⟨fun h => absurd h (by decide), ?_⟩
   refine M_end (by kernel_rfl) ?_
   exact ⟨rfl, hT.sel [0, 2, 3], E⟩
  show Code.wp _ _ _ _ _
  refine wp_seq ?_
  refine wp_region_lit ?_
  refine lq hT (q_bin rfl rfl rfl n_eq) fun x hT => ?_
  refine lq hT (q_assign rfl rfl) fun x hT => ?_
  refine wpList_nil ?_
  show Code.wp _ _ _ _ _
  refine wp_cond_split (hT.ev rfl) (fun h => ?_) (fun h => ?_)
  ·obtain ⟨n, uK, uV, uI, hn, e0, e1, e2, e3, rK, rV, rI, sm⟩ := E.node hk
   have t1 : w.cell? ⟨b3, 1, none⟩ = some (.slice (some ⟨g, 0, none⟩) 19 c) := E.c3.cell 1
   have hKs : (RD.s uK n.2.1.length).ok w wz.heap.size := ⟨n.2.1, rfl, rK⟩
   obtain ⟨xK, mK, cK, rfl, hK0, hK1⟩ : ∃ x m c, uK = .slice x m c ∧ m = n.2.1.length ∧ (0 < m → ∃ X, x = some ⟨X, 0, none⟩ ∧ m ≤ c) := by
    rcases rK with ⟨rfl, e⟩ | ⟨X, cap, cur, rfl, _, _, h1, _⟩
    ·have : n.2.1 = [] := by simpa [Go.Rf.strs] using e
     exact ⟨_, _, _, rfl, by rw [this]; rfl, fun h => by omega⟩
    ·exact ⟨_, _, _, rfl, List.length_map _, fun _ => ⟨X, rfl, h1⟩⟩
   refine wp_seq ?_
   refine wp_region_lit ?_
   refine lq hT (q_field rfl rfl fT rfl) fun x hT => ?_
   refine lq hT (q_load rfl rfl (l_sn t1)) fun x hT => ?_
   refine lq hT (q_move rfl rfl) fun x hT => ?_
   refine lq hT (q_index rfl rfl rfl (i_node (by omega))) fun x hT => ?_
   refine lq hT (q_field rfl rfl fN rfl) fun x hT => ?_
   refine lq hT (q_load rfl rfl (l_ss e1)) fun x hT => ?_
   refine lq hT (q_len rfl Try.underlying62 rfl) fun x hT => ?_
   refine lq hT (q_bin rfl rfl rfl n_gt) fun x hT => ?_
   refine wpList_nil ?_
   show Code.wp _ _ _ _ _
   refine wp_cond_split (hT.ev rfl) (fun h => ?_) (fun h => ?_)
   ·have h0 : 0 < mK := by simpa using h
    obtain ⟨X, rfl, hc⟩ := hK1 h0
    have hr := hr.below (below_drew w)
    have rK := rK.below (below_drew w)
    refine wp_region_M (n := 10) (Kp b3 g w.drew) [0, 1, 2, 3, 4, 5, 6, 7, 8] [] (by kernel_rfl) rfl ?_
    have hS := (⟨rfl, rfl⟩ : Kp b3 g w.drew w.drew)
    have E0 := E.below (below_drew w)
    have E := E0
    refine mQ 0 [1, 3, 4, 5, 8, 9] hT hS rfl (fun w' hw => q_field rfl rfl fT rfl) fun x hT => ?_
    refine mQ 1 [3, 4, 5, 8, 9] hT hS rfl (fun w' hw => q_load rfl rfl (l_sn (kp3 hw t1))) fun x hT => ?_
    refine mQ 2 [3, 4, 5, 8, 9] hT hS rfl (fun w' hw => q_move rfl rfl) fun x hT => ?_
    refine mQ 3 [4, 5, 8, 9] hT hS rfl (fun w' hw => q_index rfl rfl rfl (i_node (by omega))) fun x hT => ?_
    refine mQ 4 [5, 8, 9] hT hS rfl (fun w' hw => q_field rfl rfl fN rfl) fun x hT => ?_
    refine mQ 5 [8, 9] hT hS rfl (fun w' hw => q_load rfl rfl (l_ss (kpg hw e1))) fun x hT => ?_
    refine mQ 6 [7, 8, 9] hT hS rfl (fun w' hw => q_move rfl rfl) fun x hT => ?_
    refine M_one 7 (by kernel_rfl) ?_
    refine at_w hT rfl rfl rfl rfl (w_callN rfl rfl (by kernel_rfl) (args := [_]) rfl (c_key hb (by omega) hr)) ?_
    rintro _ w ⟨s, rfl, hr, hbt⟩ x hT
    have hS := hS.bt E hbt
    have E := E.draw hbt
    have rK := rowIn_bt rK hbt hlt0
    refine ⟨fun _ _ => hS, ?_⟩
    refine mQ 8 [9] hT hS rfl (fun w' hw => q_index rfl rfl rfl (i_str0 (by omega))) fun x hT => ?_
    refine M_one 9 (by kernel_rfl) ?_
    refine at_s hT rfl rfl rfl (e_key0 E rfl rfl rfl rK h0) ?_
    rintro _ w E
    refine ⟨fun h => absurd h (by decide), ?_⟩
    refine M_end (by kernel_rfl) ?_
    exact ⟨rfl, hT.sel [0, 2, 3], E⟩
   ·refine wp_skip ?_
    exact ⟨rfl, hT.sel [0, 2, 3], E.af⟩
  show Code.wp _ _ _ _ _
  refine wp_seq ?_
  refine wp_region_lit ?_
  refine lq hT (q_bin rfl rfl rfl n_eq) fun x hT => ?_
  refine lq hT (q_assign rfl rfl) fun x hT => ?_
  refine wpList_nil ?_
  show Code.wp _ _ _ _ _
  refine wp_cond_split (hT.ev rfl) (fun h => ?_) (fun h => ?_)
  ·have hrt : rt < 19 := by rw [← hlN]; exact hrt0
   have t0 : w.cell? ⟨b3, 0, none⟩ = some (.int .i64 (rt : Int)) := E.c3.cell 0
   have t1 : w.cell? ⟨b3, 1, none⟩ = some (.slice (some ⟨g, 0, none⟩) 19 c) := E.c3.cell 1
   obtain ⟨n, uK, uV, uI, hn, e0, e1, e2, e3, rK, rV, rI, sm⟩ := E.node hrt
   obtain ⟨xK, mK, cK, rfl, hK0, hK1⟩ : ∃ x m c, uI = .slice x m c ∧ m = n.2.2.2.1.length ∧ (0 < m → ∃ X, x = some ⟨X, 0, none⟩ ∧ m ≤ c) := by
    rcases rI with ⟨rfl, e⟩ | ⟨X, cap, cur, rfl, _, _, h1, _⟩
    ·have : n.2.2.2.1 = [] := by simpa [Go.Rf.ints] using e
     exact ⟨_, _, _, rfl, by rw [this]; rfl, fun h => by omega⟩
    ·exact ⟨_, _, _, rfl, List.length_map _, fun _ => ⟨X, rfl, h1⟩⟩
   refine wp_seq ?_
   refine wp_region_lit ?_
   refine lq hT (q_field rfl rfl fT rfl) fun x hT => ?_
   refine lq hT (q_load rfl rfl (l_sn t1)) fun x hT => ?_
   refine lq hT (q_field rfl rfl fT rfl) fun x hT => ?_
   refine lq hT (q_load rfl rfl (l_int t0)) fun x hT => ?_
   refine lq hT (q_index rfl rfl rfl (i_node (by omega))) fun x hT => ?_
   refine lq hT (q_field rfl rfl fN rfl) fun x hT => ?_
   refine lq hT (q_load rfl rfl (l_si e3)) fun x hT => ?_
   refine lq hT (q_len rfl Try.underlying65 rfl) fun x hT => ?_
   refine lq hT (q_bin rfl rfl rfl n_gt) fun x hT => ?_
   refine wpList_nil ?_
   show Code.wp _ _ _ _ _
   refine wp_cond_split (hT.ev rfl) (fun h => ?_) (fun h => ?_)
   ·have h0 : 0 < mK := by simpa using h
    obtain ⟨X, rfl, hc⟩ := hK1 h0
    refine wp_region_M (n := 11) (Kp b3 g w.drew) [0, 1, 2, 3, 4, 5, 6, 7, 8, 9] [] (by kernel_rfl) rfl ?_
    have hS := (⟨rfl, rfl⟩ : Kp b3 g w.drew w.drew)
    have E0 := E.below (below_drew w)
    have E := E0
    refine mQ 0 [1, 4, 5, 6, 9, 10] hT hS rfl (fun w' hw => q_field rfl rfl fT rfl) fun x hT => ?_
    refine mQ 1 [4, 5, 6, 9, 10] hT hS rfl (fun w' hw => q_load rfl rfl (l_sn (kp3 hw t1))) fun x hT => ?_
    refine mQ 2 [3, 4, 5, 6, 9, 10] hT hS rfl (fun w' hw => q_field rfl rfl fT rfl) fun x hT => ?_
    refine mQ 3 [4, 5, 6, 9, 10] hT hS rfl (fun w' hw => q_load rfl rfl (l_int (kp3 hw t0))) fun x hT => ?_
    refine mQ 4 [5, 6, 9, 10] hT hS rfl (fun w' hw => q_index rfl rfl rfl (i_node (by omega))) fun x hT => ?_
    refine mQ 5 [6, 9, 10] hT hS rfl (fun w' hw => q_field rfl rfl fN rfl) fun x hT => ?_
    refine mQ 6 [9, 10] hT hS rfl (fun w' hw => q_load rfl rfl (l_si (kpg hw e3))) fun x hT => ?_
    refine mQ 7 [8, 9, 10] hT hS rfl (fun w' hw => q_field rfl rfl fT rfl) fun x hT => ?_
    refine mQ 8 [9, 10] hT hS rfl (fun w' hw => q_load rfl rfl (l_int (kp3 hw t0))) fun x hT => ?_
    refine mQ 9 [10] hT hS rfl (fun w' hw => q_index rfl rfl rfl (i_int0 (by omega))) fun x hT => ?_
    refine M_one 10 (by kernel_rfl) ?_
    refine at_s hT rfl rfl rfl (e_kid0 E rfl rfl rfl rI h0) ?_
    rintro _ w E
    refine ⟨fun h => absurd h (by decide), ?_⟩
    refine M_end (by kernel_rfl) ?_
    exact ⟨rfl, hT.sel [0, 2, 3], E⟩
   ·refine wp_skip ?_
    exact ⟨rfl, hT.sel [0, 2, 3], E.af⟩
  ·refine wp_skip ?_
   exact ⟨rfl, hT.sel [0, 2, 3], E.af⟩
 clear hT E
 rintro x w ⟨hT, E⟩
 show Code.wp _ _ _ _ _
 refine wp_seq ?_
 obtain ⟨v0, v1, k1, g0, g1, kt⟩ := E.c3
 have q0 := k1.cell 0
 have q1 := k1.cell 1
 refine wp_region_lit ?_
 refine lq hT (q_load rfl rfl (l_tree q0 q1)) fun x hT => ?_
 refine L_s hT rfl rfl (e_at E g0 g1 kt rfl rfl rfl) ?_
 rintro _ w1 ⟨d1, dt, hbt⟩
 refine wpList_nil ?_
 show Code.wp _ _ _ _ _
 refine wp_ret ?_
 repeat refine then_ret ?_
 show bodyPost _ _ _ _ _ _
 refine ret_t hT rfl rfl d1 ?_
 exact ⟨_, rfl, dt, hbt⟩
end Go.Proofs.Ytcolgghllacloaa.Tm
end

section
namespace Go.Proofs.Ytcolgghllacloaa.Q
open Go.RowKit Go.Proofs.Ytcolgghllacloaa.Q Go.Proofs.YtcolgghllacloaaW.PrintWords Go.Proofs.YtcolgghllacloaaW.PrintLast Go.Proofs.YtcolgghllacloaaW.PrintMore
def CellsAt (W : World) (B : Nat) (t : TypeId) (cs : Array Value) : Prop := W.heap[B]? = some (.cells cs t (0, 0))
theorem CellsAt.lt {W : World} {B : Nat} {t : TypeId} {cs : Array Value} (h : CellsAt W B t cs) : B < W.heap.size := (Array.getElem?_eq_some_iff.1 h).1
theorem CellsAt.new (W : World) (t : TypeId) (cs : Array Value) : CellsAt (W.alloc (.cells cs t)) W.heap.size t cs := by show (W.heap.push _)[W.heap.size]? = _; simp
theorem CellsAt.below {W W' : World} {B n : Nat} {t : TypeId} {cs : Array Value} (h : CellsAt W B t cs) (hb : Below n W W') (hn : B < n) : CellsAt W' B t cs := (hb.block B hn).trans h
theorem CellsAt.alloc {W : World} {B : Nat} {t : TypeId} {cs : Array Value} (h : CellsAt W B t cs) (o : Obj) : CellsAt (W.alloc o) B t cs := (Below.heap_alloc W o B h.lt).trans h
theorem CellsAt.cell {W : World} {B : Nat} {t : TypeId} {cs : Array Value} (h : CellsAt W B t cs) (j : Nat) : W.cell? ⟨B, j, none⟩ = cs[j]? := by
 simp [World.cell?, show W.heap[B]? = _ from h]
abbrev Nd := Bool × List ByteArray × List ByteArray × List Int × Unit
def kept (low high k : ByteArray) : Bool := !(Op.bytesLess k.toList low.toList) && (high.toList == (ByteArray.mk #[]).toList || Op.bytesLess k.toList high.toList)
def leafP (low high : ByteArray) (K V : List ByteArray) (i : Nat) : List (ByteArray × ByteArray) :=
 (List.range i).flatMap fun j => if kept low high (K.getD j ByteArray.empty) then [(K.getD j ByteArray.empty, V.getD j ByteArray.empty)] else []
theorem leafP_succ (low high : ByteArray) (K V : List ByteArray) (i : Nat) : leafP low high K V (i + 1) = leafP low high K V i ++ if kept low high (K.getD i ByteArray.empty) then [(K.getD i ByteArray.empty, V.getD i ByteArray.empty)] else [] := by
 unfold leafP
 rw [List.range_succ, List.flatMap_append, List.flatMap_singleton]
def listF (N : List Nd) (low high : ByteArray) : Nat → Int → List (ByteArray × ByteArray)
 | 0, _ => []
 | f + 1, a => match N[a.toNat]? with
  | some n => leafP low high n.2.1 n.2.2.1 n.2.2.1.length ++ n.2.2.2.1.flatMap (listF N low high f)
  | none => []
def fitL (N : List Nd) : Nat → Int → Prop
 | 0, _ => False
 | f + 1, a => ∃ n, N[a.toNat]? = some n ∧ 0 ≤ a ∧ (n.2.2.1.length ≤ n.2.1.length ∧ n.2.2.1.length ≤ 2097152 ∧ n.2.2.2.1.length ≤ 2097152) ∧ ∀ k ∈ n.2.2.2.1, fitL N f k
def flatP : List (ByteArray × ByteArray) → List Value
 | [] => []
 | p :: l => .string p.1 :: .string p.2 :: flatP l
theorem flatP_append : ∀ l m, flatP (l ++ m) = flatP l ++ flatP m
 | [], _ => rfl
 | p :: l, m => by simp [flatP, flatP_append l m]
theorem info_pair : (Try.prog.info? 45).map (fun i => (i.zero, i.size, i.bytes)) = some (some (.agg #[.string ⟨#[]⟩, .string ⟨#[]⟩]), 2, 32) := by kernel_rfl
def NodeAt (w : World) (b o : Nat) (n : Nd) : Prop :=
 ∃ AK cK AV cV AI cI, w.cell? ⟨b, o, none⟩ = some (.bool n.1) ∧ w.cell? ⟨b, o + 1, none⟩ = some (.slice AK n.2.1.length cK) ∧ w.cell? ⟨b, o + 2, none⟩ = some (.slice AV n.2.2.1.length cV) ∧ w.cell? ⟨b, o + 3, none⟩ = some (.slice AI n.2.2.2.1.length cI) ∧
  (∀ j p, n.2.1[j]? = some p → ∃ a, AK = some a ∧ w.cell? (a.add j) = some (.string p)) ∧ (∀ j p, n.2.2.1[j]? = some p → ∃ a, AV = some a ∧ w.cell? (a.add j) = some (.string p)) ∧ (∀ j p, n.2.2.2.1[j]? = some p → ∃ a, AI = some a ∧ w.cell? (a.add j) = some (.int .i64 p))
abbrev capt (B : Nat) : Array Value := #[.pointer (some ⟨B, 0, none⟩), .pointer (some ⟨B + 1, 0, none⟩), .pointer (some ⟨B + 2, 0, none⟩), .pointer (some ⟨B + 3, 0, none⟩), .pointer (some ⟨B + 4, 0, none⟩)]
structure LAt (w0 W : World) (root : Int) (nb no nc : Nat) (N : List Nd) (low high : ByteArray) (xs : List (ByteArray × ByteArray)) : Prop where
 tree : W.heap[w0.heap.size]? = some (.cells #[.int .i64 root, .slice (some ⟨nb, no, none⟩) N.length nc] 30 (0, 0))
 low : W.heap[w0.heap.size + 1]? = some (.cells #[.string low] 9 (0, 0))
 high : W.heap[w0.heap.size + 2]? = some (.cells #[.string high] 9 (0, 0))
 out : ∃ v, W.heap[w0.heap.size + 3]? = some (.cells #[v] 26 (0, 0)) ∧ W.ownsRow (w0.heap.size + 5) 45 2 v xs.length (flatP xs)
 visit : W.heap[w0.heap.size + 4]? = some (.cells #[.func (.func 43) #[] (capt w0.heap.size)] 74 (0, 0))
 below : Below w0.heap.size w0 W
structure KeptL (B : Nat) (W W' : World) : Prop where
 size : W.heap.size ≤ W'.heap.size
 block : ∀ k cs e fz, W.heap[k]? = some (.cells cs e fz) → k ≠ B + 3 → e ≠ 45 → W'.heap[k]? = some (.cells cs e fz)
theorem KeptL.refl (B : Nat) (W : World) : KeptL B W W := ⟨Nat.le_refl _, fun _ _ _ _ h _ _ => h⟩
theorem KeptL.trans {B : Nat} {W W' W'' : World} (h : KeptL B W W') (h' : KeptL B W' W'') : KeptL B W W'' := ⟨Nat.le_trans h.size h'.size, fun k cs e fz h1 h2 h3 => h'.block k cs e fz (h.block k cs e fz h1 h2 h3) h2 h3⟩
theorem cell_two_new (w : World) (a b : Value) (t : TypeId) : ∀ j u, [a, b][j]? = some u → (w.alloc (.cells #[a, b] t)).cell? ((⟨w.heap.size, 0, none⟩ : Addr).add j) = some u := by
 intro j u hj
 match j, hj with
 | 0, hj => simp at hj; subst hj; simp [Addr.add]
 | 1, hj => simp at hj; subst hj; simp [Addr.add]
 | j + 2, hj => simp at hj
section
variable {w0 W W' : World} {root : Int} {nb no nc : Nat} {N : List Nd} {low high : ByteArray} {xs : List (ByteArray × ByteArray)}
theorem LAt.alloc (h : LAt w0 W root nb no nc N low high xs) (o : Obj) : LAt w0 (W.alloc o) root nb no nc N low high xs := by
 obtain ⟨v, h1, h2⟩ := h.out
 have key : ∀ (k : Nat) x, W.heap[k]? = some x → (W.alloc o).heap[k]? = some x := fun k x hx => by rw [Below.heap_alloc _ _ _ (lt_of_block hx)]; exact hx
 exact ⟨key _ _ h.tree, key _ _ h.low, key _ _ h.high, ⟨v, key _ _ h1, h2.alloc _⟩, key _ _ h.visit, h.below.alloc h.below.size _⟩
theorem LAt.cell (h : LAt w0 W root nb no nc N low high xs) {a : Addr} {v : Value} (hv : w0.cell? a = some v) : W.cell? a = some v :=
 (World.cell?_of_block (h.below.block a.block (World.block_lt_of_cell? w0 a hv))).trans hv
theorem LAt.push (h : LAt w0 W root nb no nc N low high xs) {p : ByteArray × ByteArray} {v v' : Value} (hv : W.heap[w0.heap.size + 3]? = some (.cells #[v] 26 (0, 0))) (hown : W.ownsRow (w0.heap.size + 5) 45 2 v xs.length (flatP xs))
  {o : Obj} (hg : (W.alloc o).grownBy W' v.ownBlock) (hown' : W'.ownsRow (w0.heap.size + 5) 45 2 v' (xs.length + 1) (flatP xs ++ [.string p.1, .string p.2])) :
  LAt w0 (W'.setCell ⟨w0.heap.size + 3, 0, none⟩ v') root nb no nc N low high (xs ++ [p]) ∧ KeptL w0.heap.size W (W'.setCell ⟨w0.heap.size + 3, 0, none⟩ v') := by
 have hlt := lt_of_block hv
 have hne : ∀ k, k < W.heap.size → (∀ cs fz, W.heap[k]? ≠ some (Obj.cells cs 45 fz)) → v.ownBlock ≠ some k := by
  intro k hk hno e
  rcases hown.2 with ⟨rfl, _⟩ | ⟨g, cap, cur, rfl, hgb, hh, _⟩
  ·cases e
  ·obtain rfl : g = k := by simpa [Value.ownBlock] using e
   exact hno _ _ hh
 have key : ∀ (k : Nat) cs e fz, W.heap[k]? = some (Obj.cells cs e fz) → e ≠ 45 → W'.heap[k]? = some (Obj.cells cs e fz) := by
  intro k cs e fz hk he
  have hk' := lt_of_block hk
  rw [hg.block k (by simp; omega) (hne k hk' (fun cs' fz' hh => by rw [hk] at hh; cases hh; exact he rfl)).symm, Below.heap_alloc _ _ _ hk']
  exact hk
 have key2 : ∀ (k : Nat) cs e fz, W.heap[k]? = some (Obj.cells cs e fz) → k ≠ w0.heap.size + 3 → e ≠ 45 → (W'.setCell ⟨w0.heap.size + 3, 0, none⟩ v').heap[k]? = some (.cells cs e fz) := by
  intro k cs e fz hk hk3 he
  rw [Below.heap_setCell _ _ _ _ (by simpa using hk3)]
  exact key k cs e fz hk he
 have hv3 : W'.heap[w0.heap.size + 3]? = some (.cells #[v] 26 (0, 0)) := key _ _ _ _ hv (by decide)
 have hb : Below w0.heap.size w0 W' := Below.grown (h.below.alloc h.below.size _) hg (by have := h.below.size; simp; omega) (fun j hj => by have := (hown.lt _ hj).1; omega)
 refine ⟨⟨key2 _ _ _ _ h.tree (by omega) (by decide), key2 _ _ _ _ h.low (by omega) (by decide), key2 _ _ _ _ h.high (by omega) (by decide), ⟨v', one_setCell hv3, ?_⟩, key2 _ _ _ _ h.visit (by omega) (by decide), hb.setCell (by simp) _⟩, ?_, key2⟩
 ·rw [flatP_append, List.length_append]
  refine ownsRow_setCell_other hown' ?_ _
  intro e
  rcases hown'.2 with ⟨rfl, _⟩ | ⟨g, cap, cur, rfl, hgb, hh, _⟩
  ·cases e
  ·obtain rfl : g = w0.heap.size + 3 := by simpa [Value.ownBlock] using e
   omega
 ·have := hg.size
  simp at this ⊢
  omega
theorem LAt.kept (h : LAt w0 W root nb no nc N low high xs) {b : Nat} {cs : Array Value} (hc : CellsAt W b 72 cs) (hk : KeptL w0.heap.size W W') (hb : b ≠ w0.heap.size + 3) : CellsAt W' b 72 cs :=
 hk.block _ _ _ _ hc hb (by decide)
end
theorem meas {n j : Nat} (h : j < n) (ew : wrap64 ((j : Int) + 1) = (j : Int) + 1) : n - (intOf (.int .i64 (wrap64 ((j : Int) + 1)))).toNat < n - (intOf (.int .i64 (j : Int))).toNat := by
 rw [ew]
 show n - ((j : Int) + 1).toNat < n - ((j : Int)).toNat
 omega
theorem num_eq {j : Nat} (ew : wrap64 ((j : Int) + 1) = (j : Int) + 1) : Value.int .i64 (wrap64 ((j : Int) + 1)) = .int .i64 ((j + 1 : Nat) : Int) := by rw [ew]; rfl
theorem flat_take {α β : Type} (g : α → List β) {l : List α} {k : Nat} {z : α} (h : l[k]? = some z) : (l.take (k + 1)).flatMap g = (l.take k).flatMap g ++ g z := by
 rw [List.take_add_one, h]
 simp
theorem flat_le {α β : Type} (g : α → List β) (l : List α) (k : Nat) : ((l.take k).flatMap g).length ≤ (l.flatMap g).length := by
 conv => rhs; rw [← List.take_append_drop k l, List.flatMap_append, List.length_append]
 omega
theorem own_slice {w : World} {base : Nat} {e : TypeId} {size : Nat} {v : Value} {n : Nat} {xs : List Value} (h : w.ownsRow base e size v n xs) : ∃ A m c, v = .slice A m c := by
 rcases h.2 with ⟨rfl, _⟩ | ⟨g, cap, cur, rfl, _⟩
 ·exact ⟨_, _, _, rfl⟩
 ·exact ⟨_, _, _, rfl⟩
theorem leafP_le (low high : ByteArray) (K V : List ByteArray) {i k : Nat} (h : i ≤ k) : (leafP low high K V i).length ≤ (leafP low high K V k).length := by
 induction h with
 | refl => exact Nat.le_refl _
 | step _ ih => rw [leafP_succ, List.length_append]; omega
theorem push_block {w0 W W' : World} {n : Nat} {xs : List Value} {v : Value} (hv : W.heap[w0.heap.size + 3]? = some (.cells #[v] 26 (0, 0))) (hown : W.ownsRow (w0.heap.size + 5) 45 2 v n xs) {o : Obj} (hg : (W.alloc o).grownBy W' v.ownBlock) : W'.heap[w0.heap.size + 3]? = some (.cells #[v] 26 (0, 0)) := by
 have hlt := lt_of_block hv
 rw [hg.block _ (by simp; omega) (fun e => by have := (hown.lt _ e.symm).1; omega), Below.heap_alloc _ _ _ hlt]
 exact hv
theorem push_free {w0 W W' : World} {n : Nat} {xs : List Value} {v : Value} (hv : W.heap[w0.heap.size + 3]? = some (.cells #[v] 26 (0, 0))) (hown : W.ownsRow (w0.heap.size + 5) 45 2 v n xs) {o : Obj} (hg : (W.alloc o).grownBy W' v.ownBlock) : W'.frozen? ⟨w0.heap.size + 3, 0, none⟩ = false := free_of_one (push_block hv hown hg)
theorem push_cell {w0 W W' : World} {n : Nat} {xs : List Value} {v : Value} (hv : W.heap[w0.heap.size + 3]? = some (.cells #[v] 26 (0, 0))) (hown : W.ownsRow (w0.heap.size + 5) 45 2 v n xs) {o : Obj} (hg : (W.alloc o).grownBy W' v.ownBlock) : W'.cell? ⟨w0.heap.size + 3, 0, none⟩ = some v := cell_of_one (push_block hv hown hg)
set_option maxRecDepth 100000 in
set_option maxHeartbeats 4000000 in
theorem visit_any (w0 : World) (root : Int) (nb no nc : Nat) (N : List Nd) (low high : ByteArray) (hN : ∀ (i : Nat) n, N[i]? = some n → NodeAt w0 nb (no + i * 4) n) :
  ∀ (f : Nat) (at' : Int) (W : World) (xs : List (ByteArray × ByteArray)), fitL N f at' → xs.length + (listF N low high f at').length ≤ 1073741824 → LAt w0 W root nb no nc N low high xs →
   Calls Try.prog 43 #[.int .i64 at', .pointer (some ⟨w0.heap.size, 0, none⟩), .pointer (some ⟨w0.heap.size + 1, 0, none⟩), .pointer (some ⟨w0.heap.size + 2, 0, none⟩), .pointer (some ⟨w0.heap.size + 3, 0, none⟩), .pointer (some ⟨w0.heap.size + 4, 0, none⟩)] W fun e W' =>
    e = .returned (.tuple #[]) ∧ LAt w0 W' root nb no nc N low high (xs ++ listF N low high f at') ∧ KeptL w0.heap.size W W' := by
 intro f
 induction f with
 | zero => intro at' W xs h; exact h.elim
 | succ f ih =>
  intro at' W xs hfit hlen hL
  obtain ⟨n, hn, hat, hkv, hkids⟩ := hfit
  obtain ⟨i, rfl⟩ : ∃ i : Nat, at' = (i : Int) := ⟨at'.toNat, by omega⟩
  have hn' : N[i]? = some n := by simpa using hn
  have hlt : i < N.length := (List.getElem?_eq_some_iff.1 hn').1
  obtain ⟨AK, cK, AV, cV, AI, cI, q0, q1, q2, q3, qK, qV, qI⟩ := hN i n hn'
  obtain ⟨i0, hi, hz0, hz1, hz2⟩ := info_parts info_pair
  have IH := Aside0.mk ih
  have QK := Aside0.mk qK
  have QV := Aside0.mk qV
  have QI := Aside0.mk qI
  have HL := Aside0.mk hlen
  have KV := Aside0.mk hkv
  have HK := Aside0.mk hkids
  clear ih qK qV qI hlen hkv hkids hN hn
  have t0 : W.cell? ⟨w0.heap.size, 0, none⟩ = some (.int .i64 root) := CellsAt.cell hL.tree 0
  have t1 : W.cell? ⟨w0.heap.size, 1, none⟩ = some (.slice (some ⟨nb, no, none⟩) N.length nc) := CellsAt.cell hL.tree 1
  have r0 : W.cell? ⟨nb, no + i * 4, none⟩ = some (.bool n.1) := hL.cell q0
  have r1 : W.cell? ⟨nb, no + i * 4 + 1, none⟩ = some (.slice AK n.2.1.length cK) := hL.cell q1
  have r2 : W.cell? ⟨nb, no + i * 4 + 2, none⟩ = some (.slice AV n.2.2.1.length cV) := hL.cell q2
  have r3 : W.cell? ⟨nb, no + i * 4 + 3, none⟩ = some (.slice AI n.2.2.2.1.length cI) := hL.cell q3
  have bi : (i : Int) < (N.length : Int) := by omega
  have b0 : (0 : Int) ≤ (i : Int) := by omega
  go_enter Try.func43, Try.ntmps43
  go_wp2
  have hc0 : CellsAt (W.alloc (.cells #[.bool n.1, .slice AK n.2.1.length cK, .slice AV n.2.2.1.length cV, .slice AI n.2.2.2.1.length cI] 72)) W.heap.size 72 #[.bool n.1, .slice AK n.2.1.length cK, .slice AV n.2.2.1.length cV, .slice AI n.2.2.2.1.length cI] := CellsAt.new W _ _
  have hL0 := hL.alloc (.cells #[.bool n.1, .slice AK n.2.1.length cK, .slice AV n.2.2.1.length cV, .slice AI n.2.2.2.1.length cI] 72)
  have hK0 : KeptL w0.heap.size W (W.alloc (.cells #[.bool n.1, .slice AK n.2.1.length cK, .slice AV n.2.2.1.length cV, .slice AI n.2.2.2.1.length cI] 72)) := ⟨by simp, fun k cs e fz h _ _ => by rw [Below.heap_alloc _ _ _ (lt_of_block h)]; exact h⟩
  have hb5 : w0.heap.size + 4 < W.heap.size := lt_of_block hL.visit
  have hlL : (leafP low high n.2.1 n.2.2.1 n.2.2.1.length).length ≤ (listF N low high (f + 1) (i : Int)).length := by simp [listF, hn']
  have HLL := Aside0.mk hlL
  clear hlL
  go_loopw [21] (fun v Wr => ∃ j : Nat, v = .int .i64 j ∧ Aside0 (j ≤ n.2.2.1.length) ∧ Aside0 (LAt w0 Wr root nb no nc N low high (xs ++ leafP low high n.2.1 n.2.2.1 j) ∧ KeptL w0.heap.size W Wr) ∧ CellsAt Wr W.heap.size 72 #[.bool n.1, .slice AK n.2.1.length cK, .slice AV n.2.2.1.length cV, .slice AI n.2.2.2.1.length cI]) (fun v _ => n.2.2.1.length - (intOf v).toNat)
  case atStart => exact ⟨0, rfl, ⟨Nat.zero_le _⟩, ⟨by simpa [leafP] using hL0, hK0⟩, hc0⟩
  case round =>
   obtain ⟨j, rfl, hj, HI, hcn⟩ := hrel
   rcases Nat.lt_or_ge j n.2.2.1.length with hjlt | hge
   ·obtain ⟨y, hy⟩ : ∃ y, n.2.2.1[j]? = some y := ⟨_, List.getElem?_eq_getElem hjlt⟩
    obtain ⟨x, hx⟩ : ∃ x, n.2.1[j]? = some x := ⟨_, List.getElem?_eq_getElem (by have := KV.out; omega)⟩
    obtain ⟨ka, hka, hkc⟩ := QK.out j x hx
    obtain ⟨va, hva, hvc⟩ := QV.out j y hy
    subst hka
    subst hva
    have kc : wr.cell? (ka.add j) = some (.string x) := HI.out.1.cell hkc
    have vc : wr.cell? (va.add j) = some (.string y) := HI.out.1.cell hvc
    have c1 : wr.cell? ⟨W.heap.size, 1, none⟩ = some (.slice (some ka) n.2.1.length cK) := hcn.cell 1
    have l0 : wr.cell? ⟨w0.heap.size + 1, 0, none⟩ = some (.string low) := cell_of_one HI.out.1.low
    have g0 : wr.cell? ⟨w0.heap.size + 2, 0, none⟩ = some (.string high) := cell_of_one HI.out.1.high
    obtain ⟨v, hv, hown⟩ := HI.out.1.out
    obtain ⟨A0, n0, k0, rfl⟩ := own_slice hown
    have v0 : wr.cell? ⟨w0.heap.size + 3, 0, none⟩ = some (.slice A0 n0 k0) := cell_of_one hv
    have vf : wr.frozen? ⟨w0.heap.size + 3, 0, none⟩ = false := free_of_one hv
    have gx : n.2.1.getD j ByteArray.empty = x := by rw [List.getD_eq_getElem?_getD, hx]; rfl
    have gy : n.2.2.1.getD j ByteArray.empty = y := by rw [List.getD_eq_getElem?_getD, hy]; rfl
    have ew : wrap64 ((j : Int) + 1) = (j : Int) + 1 := by have := KV.out; unfold wrap64; omega
    have bj : (j : Int) < (n.2.1.length : Int) := by have := KV.out; omega
    have bv : (j : Int) < (n.2.2.1.length : Int) := by omega
    have c0 : (0 : Int) ≤ (j : Int) := by omega
    have HV := Aside0.mk hv
    have HO := Aside0.mk hown
    clear hv
    have keep1 : kept low high x = true → leafP low high n.2.1 n.2.2.1 (j + 1) = leafP low high n.2.1 n.2.2.1 j ++ [(x, y)] := fun h => by rw [leafP_succ, gx, gy, h]; rfl
    have drop1 : kept low high x = false → leafP low high n.2.1 n.2.2.1 (j + 1) = leafP low high n.2.1 n.2.2.1 j := fun h => by rw [leafP_succ, gx, h]; simp
    have K1 := Aside0.mk keep1
    have D1 := Aside0.mk drop1
    clear keep1 drop1 gx gy hown
    have LN := Aside0.mk (show (xs ++ leafP low high n.2.1 n.2.2.1 j).length + 1 ≤ 2147483648 by
     have h1 := leafP_le low high n.2.1 n.2.2.1 (Nat.le_of_lt hjlt)
     have h2 := HL.out
     have h3 := HLL.out
     rw [List.length_append]
     omega)
    have hwr : w0.heap.size + 5 ≤ wr.heap.size := by have := lt_of_block HI.out.1.visit; omega
    cases e1 : Op.bytesLess x.toList low.toList with
    | true =>
     go_wp2
     refine ⟨⟨j + 1, num_eq ew, ⟨by omega⟩, ⟨by rw [D1.out (by simp [kept, *])]; exact HI.out.1, HI.out.2⟩, hcn⟩, meas hjlt ew⟩
    | false =>
     by_cases e2 : high.toList = []
     ·go_wp2_with (at_builtin; refine wpList_append_own _ rfl _ _ 26 rfl (w0.heap.size + 5) 45 i0 (.agg #[.string ⟨#[]⟩, .string ⟨#[]⟩]) 2 32 Try.underlying26 hi hz0 hz1 hz2 rfl (by decide) _ _ _ rfl (HO.out.alloc _) ⟨wr.heap.size, 0, none⟩ 1 1 [.string x, .string y] rfl rfl (cell_two_new _ _ _ _) (fun u hu => by simp at hu; rcases hu with rfl | rfl <;> rfl) (by have := LN.out; unfold maxLen; omega) (by have := LN.out; omega) (by have := hwr; simp; omega) ?_; intro v' w3 hown' hgrow3 hnil3; obtain ⟨A1, n1, k1, rfl⟩ := own_slice hown'; have PP := Aside0.mk (HI.out.1.push (p := (x, y)) HV.out HO.out hgrow3 hown'); have vf3 : w3.frozen? ⟨w0.heap.size + 3, 0, none⟩ = false := push_free HV.out HO.out hgrow3; have vc3 : w3.cell? ⟨w0.heap.size + 3, 0, none⟩ = some (.slice A0 n0 k0) := push_cell HV.out HO.out hgrow3; clear hown' hgrow3 hnil3)
      go_wp2
      refine ⟨⟨j + 1, num_eq ew, ⟨by omega⟩, ⟨by rw [K1.out (by simp [kept, *]), ← List.append_assoc]; exact PP.out.1, HI.out.2.trans PP.out.2⟩, HI.out.1.kept hcn PP.out.2 (by omega)⟩, meas hjlt ew⟩
     ·have e4 : (high.toList == ([] : List UInt8)) = false := by simpa using e2
      cases e3 : Op.bytesLess x.toList high.toList with
      | true =>
       go_wp2_with (at_builtin; refine wpList_append_own _ rfl _ _ 26 rfl (w0.heap.size + 5) 45 i0 (.agg #[.string ⟨#[]⟩, .string ⟨#[]⟩]) 2 32 Try.underlying26 hi hz0 hz1 hz2 rfl (by decide) _ _ _ rfl (HO.out.alloc _) ⟨wr.heap.size, 0, none⟩ 1 1 [.string x, .string y] rfl rfl (cell_two_new _ _ _ _) (fun u hu => by simp at hu; rcases hu with rfl | rfl <;> rfl) (by have := LN.out; unfold maxLen; omega) (by have := LN.out; omega) (by have := hwr; simp; omega) ?_; intro v' w3 hown' hgrow3 hnil3; obtain ⟨A1, n1, k1, rfl⟩ := own_slice hown'; have PP := Aside0.mk (HI.out.1.push (p := (x, y)) HV.out HO.out hgrow3 hown'); have vf3 : w3.frozen? ⟨w0.heap.size + 3, 0, none⟩ = false := push_free HV.out HO.out hgrow3; have vc3 : w3.cell? ⟨w0.heap.size + 3, 0, none⟩ = some (.slice A0 n0 k0) := push_cell HV.out HO.out hgrow3; clear hown' hgrow3 hnil3)
       go_wp2
       refine ⟨⟨j + 1, num_eq ew, ⟨by omega⟩, ⟨by rw [K1.out (by simp [kept, *]), ← List.append_assoc]; exact PP.out.1, HI.out.2.trans PP.out.2⟩, HI.out.1.kept hcn PP.out.2 (by omega)⟩, meas hjlt ew⟩
      | false =>
       go_wp2
       refine ⟨⟨j + 1, num_eq ew, ⟨by omega⟩, ⟨by rw [D1.out (by simp [kept, *])]; exact HI.out.1, HI.out.2⟩, hcn⟩, meas hjlt ew⟩
   ·obtain rfl : j = n.2.2.1.length := by have := hj.out; omega
    have c3 : wr.cell? ⟨W.heap.size, 3, none⟩ = some (.slice AI n.2.2.2.1.length cI) := hcn.cell 3
    have HF := Aside0.mk (show listF N low high (f + 1) (i : Int) = leafP low high n.2.1 n.2.2.1 n.2.2.1.length ++ n.2.2.2.1.flatMap (listF N low high f) by simp [listF, hn'])
    go_wp2
    go_loopw [53] (fun v Wr => ∃ k : Nat, v = .int .i64 k ∧ Aside0 (k ≤ n.2.2.2.1.length) ∧ Aside0 (LAt w0 Wr root nb no nc N low high (xs ++ leafP low high n.2.1 n.2.2.1 n.2.2.1.length ++ (n.2.2.2.1.take k).flatMap (listF N low high f)) ∧ KeptL w0.heap.size W Wr)) (fun v _ => n.2.2.2.1.length - (intOf v).toNat)
    case atStart => exact ⟨0, rfl, ⟨Nat.zero_le _⟩, ⟨by simpa using HI.out.1, HI.out.2⟩⟩
    case round =>
     obtain ⟨k, rfl, hk, HJ⟩ := hrel
     rcases Nat.lt_or_ge k n.2.2.2.1.length with hklt | hkge
     ·obtain ⟨z, hz⟩ : ∃ z, n.2.2.2.1[k]? = some z := ⟨_, List.getElem?_eq_getElem hklt⟩
      obtain ⟨ia, hia, hic⟩ := QI.out k z hz
      subst hia
      have zc : wr.cell? (ia.add k) = some (.int .i64 z) := HJ.out.1.cell hic
      have v4 : wr.cell? ⟨w0.heap.size + 4, 0, none⟩ = some (.func (.func 43) #[] (capt w0.heap.size)) := cell_of_one HJ.out.1.visit
      have ek : wrap64 ((k : Int) + 1) = (k : Int) + 1 := by have := KV.out; unfold wrap64; omega
      have bk : (k : Int) < (n.2.2.2.1.length : Int) := by omega
      have k0 : (0 : Int) ≤ (k : Int) := by omega
      have HT := Aside0.mk (flat_take (listF N low high f) hz)
      have HM := Aside0.mk (show (xs ++ leafP low high n.2.1 n.2.2.1 n.2.2.1.length ++ (n.2.2.2.1.take k).flatMap (listF N low high f)).length + (listF N low high f z).length ≤ 1073741824 by
       have h1 := HL.out
       have h2 := flat_le (listF N low high f) n.2.2.2.1 (k + 1)
       rw [HF.out, List.length_append] at h1
       rw [HT.out, List.length_append] at h2
       rw [List.length_append, List.length_append]
       omega)
      have HZ := Aside0.mk (HK.out z (List.mem_of_getElem? hz))
      clear hz
      go_wp2_with (go_at_call 43; refine (IH.out z _ _ HZ.out HM.out HJ.out.1).mono ?_; rintro e w4 ⟨rfl, hL4, hK4⟩; have HJ4 := Aside0.mk (And.intro hL4 hK4); clear hL4 hK4)
      refine ⟨⟨k + 1, num_eq ek, ⟨by omega⟩, ⟨by rw [HT.out, ← List.append_assoc]; exact HJ4.out.1, HJ.out.2.trans HJ4.out.2⟩⟩, meas hklt ek⟩
     ·obtain rfl : k = n.2.2.2.1.length := by have := hk.out; omega
      go_wp2
      go_end0
      refine ⟨rfl, ?_, HJ.out.2⟩
      have := HJ.out.1
      rw [List.take_length] at this
      rw [HF.out, ← List.append_assoc]
      exact this
end Go.Proofs.Ytcolgghllacloaa.Q
end

section
namespace Go.Proofs.Ytcolgghllacloaa.Q
open Go.RowKit Go.Proofs.Ytcolgghllacloaa.Q Go.Proofs.YtcolgghllacloaaW.PrintWords Go.Proofs.YtcolgghllacloaaW.PrintLast Go.Proofs.YtcolgghllacloaaW.PrintMore
def OwnP (w : World) (base : Nat) (v : Value) (l : List (ByteArray × ByteArray)) : Prop :=
 (v = .slice none 0 0 ∧ l = []) ∨ ∃ g cap cur, v = .slice (some ⟨g, 0, none⟩) l.length cap ∧ base ≤ g ∧ w.heap[g]? = some (.cells cur 45 (0, 0)) ∧ l.length ≤ cap ∧ cap ≤ maxLen ∧ cap * 2 ≤ cur.size ∧ cur.toList.take (l.length * 2) = flatP l
theorem clip_nil (w : World) : Calls Try.prog 44 #[.slice none 0 0] w fun e w' => e = .returned (.slice none 0 0) ∧ w' = w := by
 go_enter Try.func44, Try.ntmps44
 go_wp2
 go_ret
 exact ⟨rfl, rfl⟩
theorem clip_any (g n c : Nat) (h : n ≤ c) (w : World) : Calls Try.prog 44 #[.slice (some ⟨g, 0, none⟩) n c] w fun e w' => e = .returned (.slice (some ⟨g, 0, none⟩) n n) ∧ w' = w := by
 have h1 : (0 : Int) ≤ (n : Int) ∧ (n : Int) ≤ (c : Int) := by omega
 go_enter Try.func44, Try.ntmps44
 go_wp2
 go_ret
 exact ⟨rfl, rfl⟩
set_option maxRecDepth 100000 in
set_option maxHeartbeats 4000000 in
theorem list_any (w : World) (root : Int) (nb no nc : Nat) (N : List Nd) (low high : ByteArray) (f : Nat) (hN : ∀ (i : Nat) n, N[i]? = some n → NodeAt w nb (no + i * 4) n) (hfit : fitL N f root) (hlen : (listF N low high f root).length ≤ 1073741824) :
  Calls Try.prog 27 #[.agg #[.int .i64 root, .slice (some ⟨nb, no, none⟩) N.length nc], .string low, .string high] w fun e w' =>
   ∃ v, e = .returned v ∧ OwnP w' w.heap.size v (listF N low high f root) ∧ Below w.heap.size w w' := by
 have hmf : ∀ (fn : Fn) (first cap : Array Value) (w : World), (Instr.makeFunc fn first cap).run Try.prog w = .ok (.func fn first cap) w := fun _ _ _ _ => rfl
 have hst : ∀ (a : Addr) (fn : Fn) (x y : Array Value) (w : World), (store a (.func fn x y)).run Try.prog w = stored Try.prog w a (.func fn x y) .plain := fun a fn x y w => run_store Try.prog w a _ _ rfl
 have HN := Aside0.mk hN
 have HF := Aside0.mk hfit
 have HL := Aside0.mk hlen
 clear hN hfit hlen
 go_enter Try.func27, Try.ntmps27
 obtain ⟨W5, hW5⟩ : ∃ W5, W5 = ((((w.alloc (.cells #[.int .i64 root, .slice (some ⟨nb, no, none⟩) N.length nc] 30)).alloc (.cells #[.string low] 9)).alloc (.cells #[.string high] 9)).alloc (.cells #[.slice none 0 0] 26)).alloc (.cells #[.func (.func 43) #[] #[.pointer (some ⟨w.heap.size, 0, none⟩), .pointer (some ⟨w.heap.size + 1, 0, none⟩), .pointer (some ⟨w.heap.size + 1 + 1, 0, none⟩), .pointer (some ⟨w.heap.size + 1 + 1 + 1, 0, none⟩), .pointer (some ⟨w.heap.size + 1 + 1 + 1 + 1, 0, none⟩)]] 74) := ⟨_, rfl⟩
 have k0 : CellsAt W5 w.heap.size 30 #[.int .i64 root, .slice (some ⟨nb, no, none⟩) N.length nc] := by rw [hW5]; exact ((((CellsAt.new w _ _).alloc _).alloc _).alloc _).alloc _
 have k1 : CellsAt W5 (w.heap.size + 1) 9 #[.string low] := by rw [hW5]; have := ((((CellsAt.new (w.alloc (.cells #[.int .i64 root, .slice (some ⟨nb, no, none⟩) N.length nc] 30)) 9 #[.string low]).alloc (.cells #[.string high] 9)).alloc (.cells #[.slice none 0 0] 26)).alloc (.cells #[.func (.func 43) #[] #[.pointer (some ⟨w.heap.size, 0, none⟩), .pointer (some ⟨w.heap.size + 1, 0, none⟩), .pointer (some ⟨w.heap.size + 1 + 1, 0, none⟩), .pointer (some ⟨w.heap.size + 1 + 1 + 1, 0, none⟩), .pointer (some ⟨w.heap.size + 1 + 1 + 1 + 1, 0, none⟩)]] 74)); simpa using this
 have k2 : CellsAt W5 (w.heap.size + 2) 9 #[.string high] := by rw [hW5]; have := (((CellsAt.new ((w.alloc (.cells #[.int .i64 root, .slice (some ⟨nb, no, none⟩) N.length nc] 30)).alloc (.cells #[.string low] 9)) 9 #[.string high]).alloc (.cells #[.slice none 0 0] 26)).alloc (.cells #[.func (.func 43) #[] #[.pointer (some ⟨w.heap.size, 0, none⟩), .pointer (some ⟨w.heap.size + 1, 0, none⟩), .pointer (some ⟨w.heap.size + 1 + 1, 0, none⟩), .pointer (some ⟨w.heap.size + 1 + 1 + 1, 0, none⟩), .pointer (some ⟨w.heap.size + 1 + 1 + 1 + 1, 0, none⟩)]] 74)); simpa using this
 have k3 : CellsAt W5 (w.heap.size + 3) 26 #[.slice none 0 0] := by rw [hW5]; have := ((CellsAt.new (((w.alloc (.cells #[.int .i64 root, .slice (some ⟨nb, no, none⟩) N.length nc] 30)).alloc (.cells #[.string low] 9)).alloc (.cells #[.string high] 9)) 26 #[.slice none 0 0]).alloc (.cells #[.func (.func 43) #[] #[.pointer (some ⟨w.heap.size, 0, none⟩), .pointer (some ⟨w.heap.size + 1, 0, none⟩), .pointer (some ⟨w.heap.size + 1 + 1, 0, none⟩), .pointer (some ⟨w.heap.size + 1 + 1 + 1, 0, none⟩), .pointer (some ⟨w.heap.size + 1 + 1 + 1 + 1, 0, none⟩)]] 74)); simpa using this
 have k4 : CellsAt W5 (w.heap.size + 4) 74 #[.func (.func 43) #[] #[.pointer (some ⟨w.heap.size, 0, none⟩), .pointer (some ⟨w.heap.size + 1, 0, none⟩), .pointer (some ⟨w.heap.size + 1 + 1, 0, none⟩), .pointer (some ⟨w.heap.size + 1 + 1 + 1, 0, none⟩), .pointer (some ⟨w.heap.size + 1 + 1 + 1 + 1, 0, none⟩)]] := by rw [hW5]; have := (CellsAt.new ((((w.alloc (.cells #[.int .i64 root, .slice (some ⟨nb, no, none⟩) N.length nc] 30)).alloc (.cells #[.string low] 9)).alloc (.cells #[.string high] 9)).alloc (.cells #[.slice none 0 0] 26)) 74 #[.func (.func 43) #[] #[.pointer (some ⟨w.heap.size, 0, none⟩), .pointer (some ⟨w.heap.size + 1, 0, none⟩), .pointer (some ⟨w.heap.size + 1 + 1, 0, none⟩), .pointer (some ⟨w.heap.size + 1 + 1 + 1, 0, none⟩), .pointer (some ⟨w.heap.size + 1 + 1 + 1 + 1, 0, none⟩)]]); simpa using this
 have hb : Below w.heap.size w W5 := by rw [hW5]; exact ((((((Below.refl _ w).alloc (Nat.le_refl _) _).alloc (by simp) _).alloc (by simp; omega) _).alloc (by simp; omega) _).alloc (by simp; omega) _)
 have H5 := Aside0.mk (show LAt w W5 root nb no nc N low high [] from ⟨k0, k1, k2, ⟨_, k3, World.ownsRow_nil _ _ _ _⟩, k4, hb⟩)
 rw [hW5] at H5
 clear k0 k1 k2 k3 k4 hb hW5
 go_wp2_with (go_at_call 43; refine (visit_any w root nb no nc N low high HN.out f root _ [] HF.out (by simpa using HL.out) H5.out).mono ?_; rintro e w4 ⟨rfl, hL4, hK4⟩; obtain ⟨v4, hv4, ho4⟩ := hL4.out; obtain ⟨A4, n4, c4, rfl⟩ := own_slice ho4; have hc4 : w4.cell? ⟨w.heap.size + 1 + 1 + 1, 0, none⟩ = some (.slice A4 n4 c4) := cell_of_one hv4; have HB := Aside0.mk hL4.below; have HO := Aside0.mk ho4; clear hK4 hL4 hv4 ho4)
 have hO := HO.out
 rcases hO.2 with ⟨h1, h2⟩ | ⟨g, cap, cur, h1, hg, hh, hnc, hcm, hcs, htk⟩
 ·injection h1 with i1 i2 i3
  subst i1 i2 i3
  refine (clip_nil w4).mono ?_
  rintro e w5 ⟨rfl, rfl⟩
  go_wp2
  go_ret
  exact ⟨_, rfl, .inl ⟨rfl, by simpa using h2⟩, HB.out⟩
 ·injection h1 with i1 i2 i3
  subst i1 i2 i3
  refine (clip_any g _ _ hnc w4).mono ?_
  rintro e w5 ⟨rfl, rfl⟩
  go_wp2
  go_ret
  simp only [List.nil_append] at hh hnc hcm hcs htk hg ⊢
  exact ⟨_, rfl, .inr ⟨g, _, cur, rfl, by omega, hh, Nat.le_refl _, by omega, by rw [hcs]; exact Nat.mul_le_mul_right 2 hnc, htk⟩, HB.out⟩
end Go.Proofs.Ytcolgghllacloaa.Q
end

section
namespace Go.Proofs.Ytcolgghllacloaa.Q
open Go.RowKit Go.Proofs.Ytcolgghllacloaa.Q Go.Proofs.YtcolgghllacloaaW.PrintWords Go.Proofs.YtcolgghllacloaaW.PrintLast Go.Proofs.YtcolgghllacloaaW.PrintMore
set_option maxRecDepth 100000 in
set_option maxHeartbeats 4000000 in
theorem treeList_yes (w : World) (root : Int) (A : Option Addr) (n c : Nat) (low high : ByteArray) (l : List (ByteArray × ByteArray))
  (hok : ∀ W, Below w.heap.size w W → Calls Try.prog 18 #[.agg #[.int .i64 root, .slice A n c]] W fun e w' => e = .returned (.bool true) ∧ Below W.heap.size W w')
  (hls : ∀ W, Below w.heap.size w W → Calls Try.prog 27 #[.agg #[.int .i64 root, .slice A n c], .string low, .string high] W fun e w' => ∃ v, e = .returned v ∧ OwnP w' W.heap.size v l ∧ Below W.heap.size W w') :
  Calls Try.prog 9 #[.agg #[.int .i64 root, .slice A n c], .string low, .string high] w fun e w' => ∃ v, e = .returned v ∧ OwnP w' w.heap.size v l ∧ Below w.heap.size w w' := by
 have HO := Aside0.mk hok
 have HL := Aside0.mk hls
 clear hok hls
 have hw := CellsAt.new w 30 #[.int .i64 root, .slice A n c]
 have hb : Below w.heap.size w (w.alloc (.cells #[.int .i64 root, .slice A n c] 30)) := (Below.refl _ w).alloc (Nat.le_refl _) _
 have HB := Aside0.mk hb
 have HW := Aside0.mk hw
 clear hw hb
 go_enter Try.func9, Try.ntmps9
 go_wp2_with (first | (go_at_call 18; refine (HO.out _ HB.out).mono ?_; rintro e w2 ⟨rfl, h2⟩; have c2 := HW.out.below h2 HW.out.lt; have t0 : w2.cell? ⟨w.heap.size, 0, none⟩ = some (.int .i64 root) := c2.cell 0; have t1 : w2.cell? ⟨w.heap.size, 1, none⟩ = some (.slice A n c) := c2.cell 1; have H2 := Aside0.mk (HB.out.trans (h2.mono HB.out.size)); clear h2 c2) | (go_at_call 27; refine (HL.out _ H2.out).mono ?_; rintro e w3 ⟨v, rfl, ho, h3⟩; have H3 := Aside0.mk (And.intro ho h3); clear ho h3))
 go_ret
 refine ⟨_, rfl, ?_, H2.out.trans (H3.out.2.mono H2.out.size)⟩
 rcases H3.out.1 with h | ⟨g, cap, cur, h1, h2, h3⟩
 ·exact .inl h
 ·exact .inr ⟨g, cap, cur, h1, Nat.le_trans H2.out.size h2, h3⟩
end Go.Proofs.Ytcolgghllacloaa.Q
end

section
namespace Go.Proofs.Ytcolgghllacloaa.R
open Go.Rf
open Go.Proofs.Ytcolgghllacloaa.Q (kept leafP leafP_succ leafP_le listF fitL flat_take flat_le)
theorem nodeOk_four {n : NodeT} (h : nodeOk n = true) : n.2.1.length ≤ 4 := by
 unfold nodeOk at h
 simp only [Bool.and_eq_true, decide_eq_true_eq] at h
 have := h.1.2
 omega
theorem nodeOk_leaf {n : NodeT} (h : nodeOk n = true) (hl : n.1 = true) : n.2.2.1.length = n.2.1.length ∧ n.2.2.2.1 = [] := by
 unfold nodeOk at h
 simp only [hl, if_true, Bool.and_eq_true, decide_eq_true_eq, beq_iff_eq] at h
 exact ⟨by omega, List.length_eq_zero_iff.1 (by omega)⟩
theorem nodeOk_inner {n : NodeT} (h : nodeOk n = true) (hl : n.1 = false) : n.2.2.1 = [] ∧ 0 < n.2.1.length ∧ n.2.2.2.1.length = n.2.1.length + 1 := by
 unfold nodeOk at h
 simp only [hl, Bool.false_eq_true, if_false, Bool.and_eq_true, decide_eq_true_eq, beq_iff_eq] at h
 exact ⟨List.length_eq_zero_iff.1 (by omega), by omega, by omega⟩
theorem gd_fit {l : List NodeT} (hok : ∀ n, n ∈ l → okNode n) : ∀ (d at' : Nat) (low high : ByteArray) (isr : Bool), Gd l d at' low high isr → fitL l d (at' : Int) := by
 intro d
 induction d with
 | zero => intro at' low high isr h; exact h.elim
 | succ d ih =>
  intro at' low high isr h
  obtain ⟨n, hn, ho, _, _, h⟩ := Gd_succ.1 h
  obtain ⟨o1, o2, o3⟩ := hok n (List.mem_of_getElem? hn)
  unfold okLen at o1 o2 o3
  refine ⟨n, by simpa using hn, by omega, ⟨?_, by omega, by omega⟩, fun k hk => ?_⟩
  ·rcases h with ⟨hl, _⟩ | ⟨hl, _⟩
   ·have := nodeOk_leaf ho hl; omega
   ·rw [(nodeOk_inner ho hl).1]; simp
  ·rcases h with ⟨hl, _⟩ | ⟨hl, hlen, hkids⟩
   ·rw [(nodeOk_leaf ho hl).2] at hk; cases hk
   ·obtain ⟨i, hi, rfl⟩ := List.mem_iff_getElem.1 hk
    obtain ⟨kid, k1, _, k3⟩ := hkids i hi
    have : n.2.2.2.1[i] = n.2.2.2.1.getD i 0 := by simp [List.getD, hi]
    rw [this, k1]
    exact ih kid _ _ _ k3
theorem flat_bound {α β : Type} {g : α → List β} {b : Nat} : ∀ {l : List α}, (∀ x ∈ l, (g x).length ≤ b) → (l.flatMap g).length ≤ l.length * b
 | [], _ => by simp
 | x :: l, h => by
  rw [List.flatMap_cons, List.length_append, List.length_cons, Nat.add_mul, Nat.one_mul]
  have h1 := h x (by simp)
  have h2 := flat_bound (l := l) (fun y hy => h y (by simp [hy]))
  omega
theorem leafP_len (low high : ByteArray) (K V : List ByteArray) : ∀ i, (leafP low high K V i).length ≤ i
 | 0 => Nat.le_refl _
 | i + 1 => by
  rw [leafP_succ, List.length_append]
  have := leafP_len low high K V i
  split <;> simp <;> omega
theorem gd_len {l : List NodeT} {f1 f2 : ByteArray} : ∀ (d at' : Nat) (low high : ByteArray) (isr : Bool), Gd l d at' low high isr → (listF l f1 f2 d (at' : Int)).length ≤ 4 * 5 ^ d := by
 intro d
 induction d with
 | zero => intro at' low high isr h; exact h.elim
 | succ d ih =>
  intro at' low high isr h
  obtain ⟨n, hn, ho, _, _, h⟩ := Gd_succ.1 h
  have h4 := nodeOk_four ho
  have hp : 0 < 5 ^ d := Nat.pow_pos (by omega)
  have hL : listF l f1 f2 (d + 1) (at' : Int) = leafP f1 f2 n.2.1 n.2.2.1 n.2.2.1.length ++ n.2.2.2.1.flatMap (listF l f1 f2 d) := by
   simp only [listF, Int.toNat_natCast, hn]
  rw [hL, List.length_append, Nat.pow_succ]
  rcases h with ⟨hl, _⟩ | ⟨hl, hlen, hkids⟩
  ·obtain ⟨e1, e2⟩ := nodeOk_leaf ho hl
   have := leafP_len f1 f2 n.2.1 n.2.2.1 n.2.2.1.length
   rw [e2]
   simp
   omega
  ·obtain ⟨e1, _, _⟩ := nodeOk_inner ho hl
   rw [e1]
   have hb := flat_bound (l := n.2.2.2.1) (g := listF l f1 f2 d) (b := 4 * 5 ^ d) (fun x hx => by
    obtain ⟨i, hi, rfl⟩ := List.mem_iff_getElem.1 hx
    obtain ⟨kid, k1, _, k3⟩ := hkids i hi
    have : n.2.2.2.1[i] = n.2.2.2.1.getD i 0 := by simp [List.getD, hi]
    rw [this, k1]
    exact ih kid _ _ _ k3)
   have h5 : n.2.2.2.1.length ≤ 5 := by omega
   have := Nat.mul_le_mul_right (4 * 5 ^ d) h5
   have e0 : (leafP f1 f2 n.2.1 ([] : List ByteArray) ([] : List ByteArray).length).length = 0 := rfl
   omega
theorem cost_mono : ∀ d, cost false d ≤ cost false (d + 1)
 | 0 => Nat.zero_le _
 | d + 1 => by
  show 1 + 3 * cost false d ≤ 1 + 3 * cost false (d + 1)
  have := cost_mono d
  omega
theorem cost_three {d : Nat} (h : cost true d ≤ 19) : d ≤ 3 := by
 rcases Nat.lt_or_ge 3 d with h3 | h3
 ·exfalso
  have : ∀ e, 13 ≤ cost false (3 + e) := fun e => by
   induction e with
   | zero => decide
   | succ e ih => exact Nat.le_trans ih (cost_mono _)
  obtain ⟨e, rfl⟩ : ∃ e, d = 3 + e + 1 := ⟨d - 4, by omega⟩
  have h1 := this e
  have h2 : cost true (3 + e + 1) = 1 + 2 * cost false (3 + e) := rfl
  omega
 ·exact h3
theorem sound_len {l : List NodeT} {t : Int} {d : Nat} (h : Sound l t d) (low high : ByteArray) : (listF l low high d t).length ≤ 500 := by
 obtain ⟨_, root, rfl, _, hg, hc⟩ := h
 have h3 := cost_three hc
 have := gd_len (f1 := low) (f2 := high) d root _ _ _ hg
 have h5 : 5 ^ d ≤ 5 ^ 3 := Nat.pow_le_pow_right (by omega) h3
 omega
end Go.Proofs.Ytcolgghllacloaa.R
end

section
namespace Go.Proofs.Ytcolgghllacloaa.R
open Go.Rf
open Go.Proofs.Ytcolgghllacloaa.Q (kept leafP leafP_succ leafP_le listF fitL flat_take flat_le)
abbrev e0 : ByteArray := ⟨#[]⟩
theorem kept_all (k : ByteArray) : kept e0 e0 k = true := by
 have h0 : e0.toList = [] := by
  unfold ByteArray.toList ByteArray.toList.loop
  rfl
 have h : Op.bytesLess k.toList e0.toList = false := by
  rw [h0]
  cases k.toList <;> rfl
 unfold kept
 rw [h]
 simp
theorem leafP_all (K V : List ByteArray) : ∀ i, (leafP e0 e0 K V i).length = i
 | 0 => rfl
 | i + 1 => by
  rw [leafP_succ, List.length_append, leafP_all K V i, kept_all]
  rfl
theorem flat_low {α β : Type} {g : α → List β} {b : Nat} : ∀ {l : List α}, (∀ x ∈ l, b ≤ (g x).length) → l.length * b ≤ (l.flatMap g).length
 | [], _ => by simp
 | x :: l, h => by
  rw [List.flatMap_cons, List.length_append, List.length_cons, Nat.add_mul, Nat.one_mul]
  have h1 := h x (by simp)
  have h2 := flat_low (l := l) (fun y hy => h y (by simp [hy]))
  omega
def least : Bool → Nat → Nat
 | _, 0 => 0
 | true, 1 => 0
 | false, 1 => 2
 | true, d + 2 => 2 * least false (d + 1)
 | false, d + 2 => 3 * least false (d + 1)
theorem gd_low {l : List NodeT} : ∀ (d at' : Nat) (low high : ByteArray) (isr : Bool), Gd l d at' low high isr → least isr d ≤ (listF l e0 e0 d (at' : Int)).length := by
 intro d
 induction d with
 | zero => intro at' low high isr h; exact h.elim
 | succ d ih =>
  intro at' low high isr h
  obtain ⟨n, hn, ho, _, h2, h⟩ := Gd_succ.1 h
  have hL : listF l e0 e0 (d + 1) (at' : Int) = leafP e0 e0 n.2.1 n.2.2.1 n.2.2.1.length ++ n.2.2.2.1.flatMap (listF l e0 e0 d) := by
   simp only [listF, Int.toNat_natCast, hn]
  rw [hL, List.length_append, leafP_all]
  rcases h with ⟨hl, rfl⟩ | ⟨hl, hlen, hkids⟩
  ·obtain ⟨e1, e2⟩ := nodeOk_leaf ho hl
   cases isr with
   | true => exact Nat.zero_le _
   | false =>
    have : 2 ≤ n.2.1.length := h2.elim (fun h => by cases h) id
    show 2 ≤ _
    omega
  ·obtain ⟨e1, e2, _⟩ := nodeOk_inner ho hl
   have hb := flat_low (l := n.2.2.2.1) (g := listF l e0 e0 d) (b := least false d) (fun x hx => by
    obtain ⟨i, hi, rfl⟩ := List.mem_iff_getElem.1 hx
    obtain ⟨kid, k1, _, k3⟩ := hkids i hi
    have : n.2.2.2.1[i] = n.2.2.2.1.getD i 0 := by simp [List.getD, hi]
    rw [this, k1]
    exact ih kid _ _ _ k3)
   cases d with
   | zero =>
    exfalso
    obtain ⟨kid, _, _, k3⟩ := hkids 0 (by omega)
    exact k3
   | succ d =>
    cases isr with
    | true =>
     show 2 * least false (d + 1) ≤ _
     have := Nat.mul_le_mul_right (least false (d + 1)) (show 2 ≤ n.2.2.2.1.length by omega)
     omega
    | false =>
     have h2 : 2 ≤ n.2.1.length := h2.elim (fun h => by cases h) id
     show 3 * least false (d + 1) ≤ _
     have := Nat.mul_le_mul_right (least false (d + 1)) (show 3 ≤ n.2.2.2.1.length by omega)
     omega
theorem gd_one {l : List NodeT} {at' : Nat} {low high : ByteArray} {isr : Bool} (h : Gd l 1 at' low high isr) : (listF l e0 e0 1 (at' : Int)).length ≤ 4 := by
 obtain ⟨n, hn, ho, _, h2, h⟩ := Gd_succ.1 h
 have h4 := nodeOk_four ho
 have hL : listF l e0 e0 1 (at' : Int) = leafP e0 e0 n.2.1 n.2.2.1 n.2.2.1.length ++ n.2.2.2.1.flatMap (listF l e0 e0 0) := by
  simp only [listF, Int.toNat_natCast, hn]
 rw [hL, List.length_append, leafP_all]
 rcases h with ⟨hl, _⟩ | ⟨hl, hlen, hkids⟩
 ·obtain ⟨e1, e2⟩ := nodeOk_leaf ho hl
  rw [e2]
  simp
  omega
 ·obtain ⟨_, e2, _⟩ := nodeOk_inner ho hl
  obtain ⟨kid, _, _, k3⟩ := hkids 0 (by omega)
  exact k3.elim
structure DeepL (t : Int) (l : List NodeT) (n : Int) (b : Bool) : Prop where
 d1 : Ev (fun k => F16 k t l) ((n, ()), (((), (), ()), ()))
 d2 : Ev (fun k => F17 k t l) ((n, ()), (((), (), ()), ()))
 o1 : Ev (fun k => F18 k t l) ((b, ()), (((), (), ()), ()))
 o2 : Ev (fun k => F19 k t l) ((b, ()), (((), (), ()), ()))
theorem deep_law (t : Int) (l : List NodeT) (hok : ∀ n, n ∈ l → okNode n) : ∃ (n : Int) (b : Bool), DeepL t l n b ∧ ((n = 0 ∧ b = false) ∨
  ∃ d : Nat, Sound l t d ∧ n = (d : Int) ∧ b = true ∧ fitL l d t ∧ 1 ≤ d ∧ d ≤ 3 ∧ (listF l e0 e0 d t).length ≤ 500 ∧ (d = 1 → (listF l e0 e0 d t).length ≤ 4) ∧ (2 ≤ d → 4 ≤ (listF l e0 e0 d t).length) ∧ (3 ≤ d → 12 ≤ (listF l e0 e0 d t).length)) := by
 obtain ⟨v, h1, hS, h2, h3⟩ := deep_ev' t l hok
 have key : DeepL t l (if v < 0 then 0 else v) (decide (v > 0)) := by
  have hcmp : decide ((if v < 0 then 0 else v) > (0 : Int)) = decide (v > 0) := by
   rcases h1 with rfl | h1
   ·decide
   ·rw [if_neg (by omega)]
  refine ⟨Ev.step 2 (fun k => F16_eq k t l) (Ev.bind h3 (Ev.now _)), ?_, ?_, Ev.step 2 (fun k => F19_eq k t l) (Ev.bind h2 (Ev.now _))⟩
  ·refine Ev.step 2 (fun k => F17_eq k t l) (Ev.bind h2 ?_)
   rcases h1 with rfl | h1
   ·exact Ev.now _
   ·have h6 : ¬ v < 0 := by omega
    simp only [h6, if_false]
    exact Ev.now _
  ·refine Ev.step 2 (fun k => F18_eq k t l) (Ev.bind h3 ?_)
   simp only [hcmp]
   exact Ev.now _
 refine ⟨_, _, key, ?_⟩
 rcases h1 with rfl | h1
 ·exact .inl ⟨rfl, rfl⟩
 ·have hs := hS h1
  obtain ⟨_, root, rfl, _, hg, hc⟩ := id hs
  have h3' := cost_three hc
  have hlow := gd_low _ _ _ _ _ hg
  refine .inr ⟨v.toNat, hs, by rw [if_neg (by omega)]; omega, decide_eq_true (by omega), gd_fit hok _ _ _ _ _ hg, by omega, h3', sound_len hs _ _, fun h => ?_, fun h => ?_, fun h => ?_⟩
  ·rw [h] at hg ⊢
   exact gd_one hg
  ·obtain h | h : v.toNat = 2 ∨ v.toNat = 3 := by omega
   ·rw [h] at hlow ⊢
    exact hlow
   ·rw [h] at hlow ⊢
    exact Nat.le_trans (by decide) hlow
  ·have h : v.toNat = 3 := by omega
   rw [h] at hlow ⊢
   exact hlow
end Go.Proofs.Ytcolgghllacloaa.R
end

section
namespace Go.Proofs.Ytcolgghllacloaa.R
open Go.Rf Go.RowKit
section
variable {w : World} {root : Int} {N : List NodeT} {v : Value} {n : Int} {b : Bool}
theorem ask_d1 (h : rep w (AllT w) (.sl nodeT) N [v]) (hd : DeepL root N n b) : Calls Try.prog 16 #[.agg #[.int .i64 root, v]] w fun e w' => e = .returned (.int .i64 n) ∧ Below w.heap.size w w' := by
 obtain ⟨k, hk⟩ := hd.d1.get
 refine (ask_read (told k 16 ((root, N, ()), ()) ((n, ()), (((), (), ()), ())) hk) (args := [.agg #[.int .i64 root, v]]) ⟨[], [], rfl, tree_shapeT h, rfl⟩ (glT _ _)).mono ?_
 rintro e w' ⟨rvs, rfp, rfl, hs, _, _, hb⟩
 exact ⟨by rw [res_intT hs], hb⟩
theorem ask_d2 (h : rep w (AllT w) (.sl nodeT) N [v]) (hd : DeepL root N n b) : Calls Try.prog 17 #[.agg #[.int .i64 root, v]] w fun e w' => e = .returned (.int .i64 n) ∧ Below w.heap.size w w' := by
 obtain ⟨k, hk⟩ := hd.d2.get
 refine (ask_read (told k 17 ((root, N, ()), ()) ((n, ()), (((), (), ()), ())) hk) (args := [.agg #[.int .i64 root, v]]) ⟨[], [], rfl, tree_shapeT h, rfl⟩ (glT _ _)).mono ?_
 rintro e w' ⟨rvs, rfp, rfl, hs, _, _, hb⟩
 exact ⟨by rw [res_intT hs], hb⟩
theorem ask_o1 (h : rep w (AllT w) (.sl nodeT) N [v]) (hd : DeepL root N n b) : Calls Try.prog 18 #[.agg #[.int .i64 root, v]] w fun e w' => e = .returned (.bool b) ∧ Below w.heap.size w w' := by
 obtain ⟨k, hk⟩ := hd.o1.get
 refine (ask_read (told k 18 ((root, N, ()), ()) ((b, ()), (((), (), ()), ())) hk) (args := [.agg #[.int .i64 root, v]]) ⟨[], [], rfl, tree_shapeT h, rfl⟩ (glT _ _)).mono ?_
 rintro e w' ⟨rvs, rfp, rfl, hs, _, _, hb⟩
 exact ⟨by rw [res_bool hs], hb⟩
theorem ask_o2 (h : rep w (AllT w) (.sl nodeT) N [v]) (hd : DeepL root N n b) : Calls Try.prog 19 #[.agg #[.int .i64 root, v]] w fun e w' => e = .returned (.bool b) ∧ Below w.heap.size w w' := by
 obtain ⟨k, hk⟩ := hd.o2.get
 refine (ask_read (told k 19 ((root, N, ()), ()) ((b, ()), (((), (), ()), ())) hk) (args := [.agg #[.int .i64 root, v]]) ⟨[], [], rfl, tree_shapeT h, rfl⟩ (glT _ _)).mono ?_
 rintro e w' ⟨rvs, rfp, rfl, hs, _, _, hb⟩
 exact ⟨by rw [res_bool hs], hb⟩
end
theorem ask_open {w : World} {code : List Int} {v : Value} (hc : ∀ y ∈ code, 0 ≤ y ∧ y ≤ 255) (h : rep w (AllT w) (.sl (.int .u8)) code [v]) :
  Calls Try.prog 33 #[v] w fun e w' => ∃ b bs, e = .returned (.pointer (some ⟨b, 0, none⟩)) ∧ Rd bs ∧ RdAt w' b bs 0 ∧ w.heap.size ≤ b ∧ Below w.heap.size w w' := by
 obtain ⟨bs, hb, hev⟩ := open_ev code hc
 obtain ⟨k, hk⟩ := hev.get
 refine ((told k 33 (code, ()) (((bs, 0, ()), ()), ((), ())) hk) w (AllT w) [v] [] ⟨[], [], rfl, ⟨h, rfl⟩, rfl⟩ (by simp) (fun x hx => by simp at hx) (fun x hx => hx) (glT _ _)).mono ?_
 rintro e w' ⟨rvs, Z', rfp, pfp, rfl, hs, hP, hnd, hf, _, hZ', hk⟩
 match rvs, hs with
 | [u], ⟨f, g, e1, ⟨b, us, e, f', hu, h1, h2, e2⟩, e3⟩ =>
  subst hu
  have hf' := sreps_nil h2
  subst hf'
  have hmem : b ∈ rfp ++ pfp := by rw [e1, e2]; simp
  refine ⟨b, bs, by rfl, hb, ⟨us, e, h1, SReps.weaken (fun x hx => ⟨(hZ' x hx).1, fun hxb => (hf b hmem).1 (hxb ▸ hx)⟩) h2⟩, ?_, hk.os, hk.tape, hk.output, hk.size, fun x hx => hk.block x hx ?_⟩
  ·exact (hf b hmem).2.elim (fun h => by cases h) id
  ·rintro (h | h)
   ·cases h
   ·omega
end Go.Proofs.Ytcolgghllacloaa.R
end

section
namespace Go.Proofs.Ytcolgghllacloaa.Tm
open Go.Rf (RowIn strs ints rep nodeT ownL blk Src IsLow IsUp AppW)
open Go.Proofs.Ytcolgghllacloaa.R (okLen okNode Rd RdAt Bt AllT DeepL)
open Go.RowKit Go.Proofs.Ytcolgghllacloaa.Q Go.Proofs.YtcolgghllacloaaW.PrintWords Go.Proofs.YtcolgghllacloaaW.PrintLast Go.Proofs.YtcolgghllacloaaW.PrintMore
section
variable {P : Program} {md : Region.Mode} {ops : Array Oper} {Q : Exit → Act → World → Prop} {S : World → Prop} {ks cs : List Nat}
variable {a : Act} {w : World} {n d i fuel : Nat} {L : List (Nat × Value)} {v : Value} {o oj : Oper} {listed : Array Bool} {M : List Nat} {rest : List Oper}
theorem L_wg {R : Value → World → Prop} {j t : Nat} {b : Bool} (hT : Tm a n L) (hg : o.guard = some (j, b)) (hj : ops[j]? = some oj) (hjd : oj.dst = some t) (ht : lk L t = some (.bool b)) (hd : o.dst = some d) (hdn : Nat.blt d n = true) (hy : WY P o L w R) (h : ∀ v w', R v w' → ∀ a', Tm a' n ((d, v) :: L) → wpList P ops Q rest a' w') : wpList P ops Q (o :: rest) a w := by
 unfold wpList
 rw [if_pos (by simp [Region.wanted, hg, yielded, hj, hjd, hT.get t _ ht])]
 left
 refine hy a n hT _ _ fun v w' hR => ?_
 rw [hd]
 exact h v w' hR _ (hT.put hdn)
theorem at_wg {R : Value → World → Prop} {j t : Nat} {b : Bool} (hT : Tm a n L) (hi : ops[i]? = some o) (hg : o.guard = some (j, b)) (hj : ops[j]? = some oj) (hjd : oj.dst = some t) (ht : lk L t = some (.bool b)) (hd : o.dst = some d) (hdn : Nat.blt d n = true) (hy : WY P o L w R)
  (h : ∀ v w', R v w' → ∀ a', Tm a' n ((d, v) :: L) → (ks.contains i = true → (∀ c ∈ cs, listed.getD c true = false) → S w') ∧ wpAnyM P md ops Q S ks cs fuel (listed.setIfInBounds i true) a' w') : At P md ops Q S ks cs fuel listed a w i := by
 unfold At wpOp
 rw [hi]
 simp only
 rw [if_pos (by simp [Region.wanted, hg, yielded, hj, hjd, hT.get t _ ht])]
 left
 refine hy a n hT _ _ fun v w' hR => ?_
 rw [hd]
 exact h v w' hR _ (hT.put hdn)
theorem M_qg (i : Nat) (M : List Nat) {j t : Nat} {b : Bool} (hT : Tm a n L) (hS : S w) (hi : ops[i]? = some o) (hc : takeOk md ops listed i ks cs M = true) (hg : o.guard = some (j, b)) (hj : ops[j]? = some oj) (hjd : oj.dst = some t) (ht : lk L t = some (.bool b)) (hd : o.dst = some d) (hdn : Nat.blt d n = true) (hQ : ∀ c a w, Q (.panic c) (a.put (some d) v) w → Q (.panic c) a w)
  (hy : ∀ w', S w' → QY P o L w' v) (h : ∀ a', Tm a' n ((d, v) :: L) → wpAnyM P md ops Q S ks cs fuel (listed.setIfInBounds i true) a' w) : wpAnyM P md ops Q S ks cs (fuel + 1) listed a w := by
 unfold takeOk at hc
 simp only [Bool.and_eq_true, List.all_eq_true, List.mem_range] at hc
 obtain ⟨⟨⟨⟨⟨⟨hcn, hcM⟩, h1⟩, h2⟩, h3⟩, h4⟩, h5⟩ := hc
 refine M_first (C := S) (M := M) hi (Region.noSelect_spec h1) (by rw [hd]; exact hQ) (fun m hm => ?_) (by simpa using hcn) fuel listed a w (Region.free_spec hi h2) (fun j hj hji hjs hjl w' hw => ?_) (fun m hm => by have := (h4 m hm).1; simpa using this) (by simpa using h3) (.inl ⟨by simp [Region.wanted, hg, yielded, hj, hjd, hT.get t _ ht], fun w' hw => hy w' hw a n hT⟩) hS (fun _ h _ => h) (by rw [hd]; exact h _ (hT.put hdn))
 ·have := (h4 m hm).2
  split at this
  ·rename_i o' ho'
   obtain ⟨e, he, hb⟩ := Array.any_eq_true'.1 this
   simp only [Bool.and_eq_true, Bool.or_eq_true, beq_iff_eq, List.contains_iff_mem] at hb
   exact ⟨o', ho', e, he, hb⟩
  ·cases this
 ·have := h5 j hjs
  simp only [Bool.or_eq_true, beq_iff_eq, hji, hjl, Bool.false_eq_true, false_or, List.contains_iff_mem] at this
  exact hw (by simpa using this.resolve_right hj) (fun c hc => by have := hcM c hc; simpa using this)
end
theorem ret_1 {fn : Func} {R : Ending → World → Prop} {a : Act} {w : World} {n p : Nat} {L : List (Nat × Value)} {u : Value} (hT : Tm a n L) (hr : fn.results = #[.tmp p]) (hp : lk L p = some u) (h : R (.returned u) w) : bodyPost Try.prog fn R .ret a w :=
 bodyPost_ret (by have := results_tmp hr a.tmps Try.prog w; rw [hT.getD hp] at this; exact this) hT.dfr h
section
variable {w w' w0 : World} {B g c d b3 : Nat} {root : Int} {N : List Nd} {L : List (Nat × Value)} {o : Oper}
theorem row_cells {id : Nat} {v : Value} {α : Type} {f : α → Value} {l : List α} (h : RowIn w B id v (l.map f)) : ∃ A c, v = .slice A l.length c ∧ ∀ j p, l[j]? = some p → ∃ a, A = some a ∧ w.cell? (a.add j) = some (f p) := by
 have hh := h
 rcases hh with ⟨rfl, h0⟩ | ⟨g, cap, cur, rfl, _⟩
 ·obtain rfl : l = [] := List.map_eq_nil_iff.1 h0
  exact ⟨_, _, rfl, fun j p hj => by simp at hj⟩
 ·refine ⟨some ⟨g, 0, none⟩, cap, by rw [List.length_map], fun j p hj => ⟨_, rfl, ?_⟩⟩
  obtain ⟨g', cap', e, hc⟩ := h.cell (j := j) (u := f p) (by rw [List.getElem?_map, hj]; rfl)
  injection e with e1
  injection e1 with e1
  injection e1 with e1
  subst e1
  rw [Go.Rf.add_mk]
  exact hc
theorem TI.nodeAt (h : TI w B g N) : ∀ (i : Nat) n, (N.drop d)[i]? = some n → Go.Proofs.Ytcolgghllacloaa.Q.NodeAt w g (d * 4 + i * 4) n := by
 intro i n hn
 obtain ⟨cur, hc, _, _, h4⟩ := h
 rw [List.getElem?_drop] at hn
 obtain ⟨uK, uV, uI, e0, e1, e2, e3, rK, rV, rI⟩ := h4 _ n hn
 obtain ⟨AK, cK, rfl, kK⟩ := row_cells rK
 obtain ⟨AV, cV, rfl, kV⟩ := row_cells rV
 obtain ⟨AI, cI, rfl, kI⟩ := row_cells rI
 rw [show d * 4 + i * 4 = (d + i) * 4 by omega]
 exact ⟨AK, cK, AV, cV, AI, cI, by rw [hc.cell]; exact e0, by rw [hc.cell]; exact e1, by rw [hc.cell]; exact e2, by rw [hc.cell]; exact e3, kK, kV, kI⟩
theorem TI.repd (h : TI w B g N) (hd : d < N.length) (hc : N.length - d ≤ c) : Go.Rf.rep w (AllT w) (.sl nodeT) (N.drop d) [.slice (some ⟨g, d * 4, none⟩) (N.length - d) c] := by
 obtain ⟨cur, h1, h2, h3, h4⟩ := h
 have hsz : cur.toList.length = cur.size := Array.length_toList
 have hN : (N.drop d).length = N.length - d := List.length_drop
 have hlen : ((cur.toList.drop (d * 4)).take ((N.drop d).length * 4)).length = (N.drop d).length * 4 := by rw [List.length_take, List.length_drop, List.length_drop, hsz]; omega
 have hget : ∀ j, j < (N.drop d).length * 4 → ((cur.toList.drop (d * 4)).take ((N.drop d).length * 4))[j]? = cur[d * 4 + j]? := fun j hj => by rw [List.getElem?_take_of_lt hj, List.getElem?_drop]; simp
 refine ⟨some ⟨g, d * 4, none⟩, c, (cur.toList.drop (d * 4)).take ((N.drop d).length * 4), by rw [hN], by rw [hN]; exact hc, Go.Rf.reps_four (N.drop d) _ hlen fun i n hn => ?_, fun j u hj => ⟨⟨g, d * 4, none⟩, rfl, rfl, h1.lt, ?_⟩⟩
 ·have hi := (List.getElem?_eq_some_iff.1 hn).1
  rw [List.getElem?_drop] at hn
  obtain ⟨uK, uV, uI, e0, e1, e2, e3, rK, rV, rI⟩ := h4 _ n hn
  refine ⟨.bool n.1, uK, uV, uI, (hget _ (by omega)).trans ?_, (hget _ (by omega)).trans ?_, (hget _ (by omega)).trans ?_, (hget _ (by omega)).trans ?_, [.bool n.1], [uK, uV, uI], rfl, rfl, [uK], [uV, uI], rfl, RowIn.srep rK, [uV], [uI], rfl, RowIn.srep rV, [uI], [], rfl, RowIn.irep rI, rfl⟩
  ·rw [show d * 4 + i * 4 = (d + i) * 4 by omega]; exact e0
  ·rw [show d * 4 + (i * 4 + 1) = (d + i) * 4 + 1 by omega]; exact e1
  ·rw [show d * 4 + (i * 4 + 2) = (d + i) * 4 + 2 by omega]; exact e2
  ·rw [show d * 4 + (i * 4 + 3) = (d + i) * 4 + 3 by omega]; exact e3
 ·have hj' : j < (N.drop d).length * 4 := by have := (List.getElem?_eq_some_iff.1 hj).1; omega
  rw [addr_add, h1.cell, ← hget j hj']
  exact hj
theorem small_ok {m : Nat} {n : Nd} (h : small m n) (hm : m ≤ 1048576) : okNode n := by
 unfold small at h
 unfold okNode okLen
 omega
structure LD (w0 : World) (b3 : Nat) (root : Int) (g c d : Nat) (N : List Nd) (w : World) : Prop where
 old : Below w0.heap.size w0 w
 box : CellsAt w b3 30 #[.int .i64 root, .slice (some ⟨g, d * 4, none⟩) (N.length - d) c]
 T : TI w w0.heap.size g N
 hb : w0.heap.size ≤ b3
theorem LD.below (h : LD w0 b3 root g c d N w) (m : Below w.heap.size w w') : LD w0 b3 root g c d N w' := ⟨h.old.trans (m.mono h.old.size), h.box.below m h.box.lt, h.T.below m, h.hb⟩
theorem rep_below {code : List Int} {v : Value} (h : rep w0 (AllT w0) (.sl (.int .u8)) code [v]) (m : Below w0.heap.size w0 w) : rep w (AllT w) (.sl (.int .u8)) code [v] := h.ext (fun b hb => m.block b hb) (fun b hb => Nat.lt_of_lt_of_le hb m.size)
theorem c_open {code : List Int} {v : Value} (hc : ∀ y ∈ code, 0 ≤ y ∧ y ≤ 255) (h : rep w (AllT w) (.sl (.int .u8)) code [v]) : Calls Try.prog 33 #[v] w (Ans fun u w' => ∃ b bs, u = .pointer (some ⟨b, 0, none⟩) ∧ Rd bs ∧ RdAt w' b bs 0 ∧ w.heap.size ≤ b ∧ Below w.heap.size w w') := by
 refine (Go.Proofs.Ytcolgghllacloaa.R.ask_open hc h).mono ?_
 rintro e w' ⟨b, bs, rfl, h1, h2, h3, h4⟩
 exact ⟨_, rfl, b, bs, rfl, h1, h2, h3, h4⟩
theorem AnyT.weak {v : Value} {B' : Nat} (h : AnyT w B v) (hB : B' ≤ B) : AnyT w B' v := by
 obtain ⟨root, g, c, d, N, e, h1, h2, ⟨cur, k1, k2, k3, k4⟩, h4, h5⟩ := h
 exact ⟨root, g, c, d, N, e, h1, h2, ⟨cur, k1, k2, by omega, fun i n hn => by
  obtain ⟨uK, uV, uI, q0, q1, q2, q3, rK, rV, rI⟩ := k4 i n hn
  exact ⟨uK, uV, uI, q0, q1, q2, q3, rK.weaken hB, rV.weaken hB, rI.weaken hB⟩⟩, h4, h5⟩
theorem e_dt {b : Nat} {x y : Operand} {v t0 t1 : Value} (ho : o.op = .store 30 x y) (hx : ev L x = some (.pointer (some ⟨b, 0, none⟩))) (hy : ev L y = some v) (hc : CellsAt w b 30 #[t0, t1]) (hv : AnyT w B v) : WY Try.prog o L w fun _ W => ∃ v0 v1, v = .agg #[v0, v1] ∧ CellsAt W b 30 #[v0, v1] ∧ AnyT W B v ∧ Below b w W := by
 obtain ⟨root, g, c, d, N, rfl, k⟩ := id hv
 refine (w_store ho hx hy (s_tree hc (by simp) rfl rfl)).mono fun _ _ h => ?_
 subst h
 refine ⟨_, _, rfl, (hc.set 0 _).set 1 _, AnyT.tbox (hv.tbox hc) (hc.set 0 _), rfl, rfl, rfl, by simp, fun k hk => ?_⟩
 rw [Below.heap_setCell _ _ _ _ (by show k ≠ b; omega), Below.heap_setCell _ _ _ _ (by show k ≠ b; omega)]
set_option maxRecDepth 100000 in
set_option maxHeartbeats 4000000 in
theorem drawDeep_any (w0 : World) (code : List Int) (v : Value) (hc : ∀ y ∈ code, 0 ≤ y ∧ y ≤ 255) (h : rep w0 (AllT w0) (.sl (.int .u8)) code [v]) : Calls Try.prog 15 #[v] w0 (Ans fun u w' => AnyT w' w0.heap.size u ∧ Below w0.heap.size w0 w') := by
 refine enter (args := [v]) Try.func15 rfl Try.ntmps15 rfl ?_
 intro x hT
 refine wp_seq ?_
 refine wp_region_lit ?_
 refine L_w hT rfl rfl rfl (e_new rfl) ?_
 rintro _ w ⟨b2, rfl, hb2, C2, m0⟩ x hT
 refine wpList_nil ?_
 show Code.wp _ _ _ _ _
 refine wp_seq ?_
 have hb2' : w0.heap.size ≤ b2 := by omega
 have hl2 := C2.lt
 refine wp_region_lit ?_
 refine lq hT (q_move rfl rfl) fun x hT => ?_
 refine L_w hT rfl rfl rfl (w_callN rfl rfl (by kernel_rfl) (args := [_]) rfl (c_open hc (rep_below h m0))) ?_
 rintro _ w ⟨b0, bs, rfl, hb, hr, hb0, m⟩ x hT
 have m0' := m0.trans (m.mono m0.size)
 have C2 := C2.below m C2.lt
 have hz0 := m0.size
 refine L_w hT rfl rfl rfl (w_callN rfl rfl (by kernel_rfl) (args := [_]) rfl (anyTree_any w b0 bs 0 hb (by omega) hr)) ?_
 rintro tv w1 ⟨hv, hbt⟩ x hT
 have C2 := C2.bt hbt (by omega)
 refine L_s hT rfl rfl (e_dt rfl rfl rfl C2 hv) ?_
 rintro _ w2 ⟨v0, v1, rfl, d1, dt, hk⟩
 refine wpList_nil ?_
 show Code.wp _ _ _ _ _
 refine wp_ret ?_
 repeat refine then_ret ?_
 show bodyPost _ _ _ _ _ _
 refine ret_t hT rfl rfl d1 ?_
 exact ⟨_, rfl, dt.weak m0'.size, (m0'.trans (⟨hbt.os, hbt.tape, hbt.output, hbt.size, fun k hk => hbt.block k (by have := m0'.size; omega) (by omega)⟩ : Below w0.heap.size _ w1)).trans (hk.mono hb2')⟩
end
end Go.Proofs.Ytcolgghllacloaa.Tm
end

section
namespace Go.Proofs.Ytcolgghllacloaa.Tm
open Go.Rf (RowIn strs ints rep nodeT ownL blk Src IsLow IsUp AppW)
open Go.Proofs.Ytcolgghllacloaa.R (okLen okNode Rd RdAt Bt AllT DeepL)
open Go.RowKit Go.Proofs.Ytcolgghllacloaa.Q Go.Proofs.YtcolgghllacloaaW.PrintWords Go.Proofs.YtcolgghllacloaaW.PrintLast Go.Proofs.YtcolgghllacloaaW.PrintMore
section
variable {w : World} {x y : Operand} {i j : Int} {b c : Bool}
theorem n_neR : (do eqGuard .neq 3 x y (.int .i64 i) (.int .i64 i); binOp .neq 3 (.int .i64 i) (.int .i64 i) : Sem Value).run Try.prog w = .ok (.bool false) w := by simp [go_sem]
theorem b_neR : (do eqGuard .neq 4 x y (.bool b) (.bool b); binOp .neq 4 (.bool b) (.bool b) : Sem Value).run Try.prog w = .ok (.bool false) w := by simp [go_sem]
theorem b_eq : (do eqGuard .eql 4 x y (.bool b) (.bool c); binOp .eql 4 (.bool b) (.bool c) : Sem Value).run Try.prog w = .ok (.bool (b == c)) w := by simp [go_sem]
theorem n_eqR : (do eqGuard .eql 3 x y (.int .i64 i) (.int .i64 i); binOp .eql 3 (.int .i64 i) (.int .i64 i) : Sem Value).run Try.prog w = .ok (.bool true) w := by simp [go_sem]
theorem n_leT (h : i ≤ j) : (do eqGuard .leq 3 x y (.int .i64 i) (.int .i64 j); binOp .leq 3 (.int .i64 i) (.int .i64 j) : Sem Value).run Try.prog w = .ok (.bool true) w := by simp [go_sem, h]
theorem n_leF (h : ¬ i ≤ j) : (do eqGuard .leq 3 x y (.int .i64 i) (.int .i64 j); binOp .leq 3 (.int .i64 i) (.int .i64 j) : Sem Value).run Try.prog w = .ok (.bool false) w := by simp [go_sem]; omega
theorem n_gtT (h : i > j) : (do eqGuard .gtr 3 x y (.int .i64 i) (.int .i64 j); binOp .gtr 3 (.int .i64 i) (.int .i64 j) : Sem Value).run Try.prog w = .ok (.bool true) w := by simp [go_sem]; omega
theorem n_geT (h : i ≥ j) : (do eqGuard .geq 3 x y (.int .i64 i) (.int .i64 j); binOp .geq 3 (.int .i64 i) (.int .i64 j) : Sem Value).run Try.prog w = .ok (.bool true) w := by simp [go_sem]; omega
end
section
variable {w w' w0 : World} {g c d b3 : Nat} {root n : Int} {N : List Nd} {b : Bool}
theorem AnyT.below {v : Value} {B : Nat} (h : AnyT w B v) (m : Below w.heap.size w w') : AnyT w' B v := by
 obtain ⟨root, g, c, d, N, e, h1, h2, h3, h4, h5⟩ := h
 exact ⟨root, g, c, d, N, e, h1, h2, h3.below m, h4, h5⟩
theorem LD.d1 (h : LD w0 b3 root g c d N w) (hd : d < N.length) (hc : N.length - d ≤ c) (hD : DeepL root (N.drop d) n b) : Calls Try.prog 16 #[.agg #[.int .i64 root, .slice (some ⟨g, d * 4, none⟩) (N.length - d) c]] w (Ans fun u w' => u = .int .i64 n ∧ Below w.heap.size w w') := by
 refine (Go.Proofs.Ytcolgghllacloaa.R.ask_d1 (h.T.repd hd hc) hD).mono ?_
 rintro e w' ⟨rfl, m⟩
 exact ⟨_, rfl, rfl, m⟩
theorem LD.d2 (h : LD w0 b3 root g c d N w) (hd : d < N.length) (hc : N.length - d ≤ c) (hD : DeepL root (N.drop d) n b) : Calls Try.prog 17 #[.agg #[.int .i64 root, .slice (some ⟨g, d * 4, none⟩) (N.length - d) c]] w (Ans fun u w' => u = .int .i64 n ∧ Below w.heap.size w w') := by
 refine (Go.Proofs.Ytcolgghllacloaa.R.ask_d2 (h.T.repd hd hc) hD).mono ?_
 rintro e w' ⟨rfl, m⟩
 exact ⟨_, rfl, rfl, m⟩
theorem LD.o1 (h : LD w0 b3 root g c d N w) (hd : d < N.length) (hc : N.length - d ≤ c) (hD : DeepL root (N.drop d) n b) : Calls Try.prog 18 #[.agg #[.int .i64 root, .slice (some ⟨g, d * 4, none⟩) (N.length - d) c]] w (Ans fun u w' => u = .bool b ∧ Below w.heap.size w w') := by
 refine (Go.Proofs.Ytcolgghllacloaa.R.ask_o1 (h.T.repd hd hc) hD).mono ?_
 rintro e w' ⟨rfl, m⟩
 exact ⟨_, rfl, rfl, m⟩
theorem LD.o2 (h : LD w0 b3 root g c d N w) (hd : d < N.length) (hc : N.length - d ≤ c) (hD : DeepL root (N.drop d) n b) : Calls Try.prog 19 #[.agg #[.int .i64 root, .slice (some ⟨g, d * 4, none⟩) (N.length - d) c]] w (Ans fun u w' => u = .bool b ∧ Below w.heap.size w w') := by
 refine (Go.Proofs.Ytcolgghllacloaa.R.ask_o2 (h.T.repd hd hc) hD).mono ?_
 rintro e w' ⟨rfl, m⟩
 exact ⟨_, rfl, rfl, m⟩
open Go.Proofs.Ytcolgghllacloaa.Q (listF fitL OwnP)
theorem LD.list (h : LD w0 b3 root g c d N w) (hd : d < N.length) (hc : N.length - d ≤ c) (hD : DeepL root (N.drop d) n true) {f : Nat} {low high : ByteArray} (hfit : fitL (N.drop d) f root) (hlen : (listF (N.drop d) low high f root).length ≤ 500) : Calls Try.prog 9 #[.agg #[.int .i64 root, .slice (some ⟨g, d * 4, none⟩) (N.length - d) c], .string low, .string high] w (Ans fun u w' => (∃ A k, u = .slice A (listF (N.drop d) low high f root).length k) ∧ OwnP w' w.heap.size u (listF (N.drop d) low high f root) ∧ Below w.heap.size w w') := by
 have hN : (N.drop d).length = N.length - d := List.length_drop
 refine (Go.Proofs.Ytcolgghllacloaa.Q.treeList_yes w root _ _ c low high (listF (N.drop d) low high f root) (fun W hW => ?_) (fun W hW => ?_)).mono ?_
 ·exact Go.Proofs.Ytcolgghllacloaa.R.ask_o1 ((h.below hW).T.repd hd hc) hD
 ·rw [← hN]
  exact Go.Proofs.Ytcolgghllacloaa.Q.list_any W root g (d * 4) c (N.drop d) low high f (h.below hW).T.nodeAt hfit (by omega)
 ·rintro e w' ⟨v, rfl, h1, h2⟩
  refine ⟨_, rfl, ?_, h1, h2⟩
  rcases h1 with ⟨rfl, e⟩ | ⟨g', cap, cur, rfl, _⟩
  ·rw [e]; exact ⟨_, _, rfl⟩
  ·exact ⟨_, _, rfl⟩
end
set_option maxRecDepth 100000 in
set_option maxHeartbeats 4000000 in
theorem law_deep (w0 : World) (code : List Int) (v : Value) (hc : ∀ y ∈ code, 0 ≤ y ∧ y ≤ 255) (h : rep w0 (AllT w0) (.sl (.int .u8)) code [v]) : Calls Try.prog 4 #[v] w0 fun e w' => e = .returned (.bool true) ∧ Below w0.heap.size w0 w' := by
 obtain ⟨A, cp, vs, ev, _⟩ := id h
 obtain rfl : v = .slice A code.length cp := (List.cons.inj ev).1
 refine enter (args := [_]) Try.func4 rfl Try.ntmps4 rfl ?_
 intro x hT
 refine wp_seq ?_
 refine wp_region_lit ?_
 refine lq hT (q_assign rfl rfl) fun x hT => ?_
 refine wpList_nil ?_
 show Code.wp _ _ _ _ _
 refine wp_seq ?_
 refine wp_seq ?_
 refine wp_region_lit ?_
 refine lq hT (q_move rfl rfl) fun x hT => ?_
 refine lq hT (q_len rfl Try.underlying37 rfl) fun x hT => ?_
 refine lq hT (q_bin rfl rfl rfl n_gt) fun x hT => ?_
 refine wpList_nil ?_
 show Code.wp _ _ _ _ _
 refine wp_cond_split (hT.ev rfl) (fun hbig => ?_) (fun hbig => ?_)
 ·refine wp_seq ?_
  refine wp_region_lit ?_
  refine lq hT (q_assign rfl rfl) fun x hT => ?_
  refine wpList_nil ?_
  show Code.wp _ _ _ _ _
  refine wp_ret ?_
  repeat refine then_ret ?_
  show bodyPost _ _ _ _ _ _
  exact ret_1 hT rfl rfl ⟨rfl, Below.refl _ _⟩
 refine wp_skip ?_
 clear hbig
 show Code.wp _ _ _ _ _
 refine wp_seq ?_
 refine wp_region_lit ?_
 refine lq hT (q_move rfl rfl) fun x hT => ?_
 refine L_w hT rfl rfl rfl (w_callN rfl rfl (by kernel_rfl) (args := [_]) rfl (drawDeep_any w0 code _ hc h)) ?_
 rintro tv w1 ⟨hv, m1⟩ x hT
 refine L_w hT rfl rfl rfl (e_new rfl) ?_
 rintro _ w2 ⟨b3, rfl, hb3, C3, m2⟩ x hT
 have hz1 := m1.size
 have hv := hv.below m2
 refine L_s hT rfl rfl (e_dt rfl rfl rfl C3 hv) ?_
 rintro _ w ⟨v0, v1, rfl, C3, hv, m3⟩
 refine wpList_nil ?_
 obtain ⟨root, g, c, d, N, e, hcc, hd, hTI, hlen, hsm⟩ := hv
 injection e with e
 have e := congrArg Array.toList e
 simp only [List.cons.injEq, and_true] at e
 obtain ⟨rfl, rfl⟩ := e
 have E : LD w0 b3 root g c d N w := ⟨(m1.trans (m2.mono hz1)).trans (m3.mono (by omega)), C3, hTI, by omega⟩
 clear C3 hTI m1 m2 m3
 obtain ⟨n, b, hD, hcase⟩ := Go.Proofs.Ytcolgghllacloaa.R.deep_law root (N.drop d) (fun n hn => small_ok (hsm n (List.mem_of_mem_drop hn)) (by omega))
 show Code.wp _ _ _ _ _
 refine wp_seq ?_
 have q0 := E.box.cell 0
 have q1 := E.box.cell 1
 refine wp_region_lit ?_
 refine lq hT (q_load rfl rfl (l_tree q0 q1)) fun x hT => ?_
 refine L_w hT rfl rfl rfl (w_callN rfl rfl (by kernel_rfl) (args := [_]) rfl (E.d1 hd hcc hD)) ?_
 rintro _ w ⟨rfl, m⟩ x hT
 have E := E.below m
 refine lq hT (q_assign rfl rfl) fun x hT => ?_
 refine wpList_nil ?_
 show Code.wp _ _ _ _ _
 refine wp_seq ?_
 refine wp_seq ?_
 clear q0 q1 m
 have q0 : w.drew.cell? ⟨b3, 0, none⟩ = some (.int .i64 root) := E.box.cell 0
 have q1 : w.drew.cell? ⟨b3, 1, none⟩ = some (.slice (some ⟨g, d * 4, none⟩) (N.length - d) c) := E.box.cell 1
 refine wp_region_M (n := 15) (Below w.drew.heap.size w.drew) [0, 1, 2, 3, 4, 5, 6, 7, 8, 9, 10, 11, 12, 13, 14] [] (by kernel_rfl) rfl ?_
 have hS := Below.refl w.drew.heap.size w.drew
 have E0 := E.below (below_drew w)
 have E := E0
 refine mq 0 [3, 4, 5, 6, 7, 8, 9, 10, 11, 12, 13, 14] hT hS rfl (fun w' hw => q_move rfl rfl) fun x hT => ?_
 refine mq 1 [2, 3, 4, 5, 6, 7, 8, 9, 10, 11, 12, 13, 14] hT hS rfl (fun w' hw => q_load rfl rfl (l_tree (ck q0 w' hw) (ck q1 w' hw))) fun x hT => ?_
 refine M_one 2 (by kernel_rfl) ?_
 refine at_w hT rfl rfl rfl rfl (w_callN rfl rfl (by kernel_rfl) (args := [_]) rfl (E.d2 hd hcc hD)) ?_
 rintro _ w ⟨rfl, m⟩ x hT
 have hS := hS.trans (m.mono hS.size)
 have E := E.below m
 refine ⟨fun _ _ => hS, ?_⟩
 refine mq 3 [4, 5, 6, 7, 8, 9, 10, 11, 12, 13, 14] hT hS rfl (fun w' hw => q_bin rfl rfl rfl n_neR) fun x hT => ?_
 refine mq 4 [5, 6, 7, 8, 9, 10, 11, 12, 13, 14] hT hS rfl (fun w' hw => q_move rfl rfl) fun x hT => ?_
 refine M_qg 5 [6, 8, 9, 10, 11, 12, 13, 14] hT hS rfl (by kernel_rfl) rfl rfl rfl rfl rfl rfl (fun _ _ _ h => h) (fun w' hw => q_load rfl rfl (l_tree (ck q0 w' hw) (ck q1 w' hw))) ?_
 intro x hT
 refine M_qg 7 [8, 9, 10, 11, 12, 13, 14] hT hS rfl (by kernel_rfl) rfl rfl rfl rfl rfl rfl (fun _ _ _ h => h) (fun w' hw => q_load rfl rfl (l_tree (ck q0 w' hw) (ck q1 w' hw))) ?_
 intro x hT
 refine M_one 6 (by kernel_rfl) ?_
 refine at_wg hT rfl rfl rfl rfl rfl rfl rfl (w_callN rfl rfl (by kernel_rfl) (args := [_]) rfl (E.o1 hd hcc hD)) ?_
 rintro _ w ⟨rfl, m⟩ x hT
 have hS := hS.trans (m.mono hS.size)
 have E := E.below m
 refine ⟨fun _ _ => hS, ?_⟩
 refine M_one 8 (by kernel_rfl) ?_
 refine at_wg hT rfl rfl rfl rfl rfl rfl rfl (w_callN rfl rfl (by kernel_rfl) (args := [_]) rfl (E.o2 hd hcc hD)) ?_
 rintro _ w ⟨rfl, m⟩ x hT
 have hS := hS.trans (m.mono hS.size)
 have E := E.below m
 refine ⟨fun _ _ => hS, ?_⟩
 refine M_qg 9 [10, 11, 12, 13, 14] hT hS rfl (by kernel_rfl) rfl rfl rfl rfl rfl rfl (fun _ _ _ h => h) (fun w' hw => q_bin rfl rfl rfl b_neR) ?_
 intro x hT
 refine mq 10 [11, 12, 13, 14] hT hS rfl (fun w' hw => q_pick rfl rfl rfl rfl) fun x hT => ?_
 refine mq 11 [12, 13, 14] hT hS rfl (fun w' hw => q_move rfl rfl) fun x hT => ?_
 refine M_qg 12 [13, 14] hT hS rfl (by kernel_rfl) rfl rfl rfl rfl rfl rfl (fun _ _ _ h => h) (fun w' hw => q_move rfl rfl) ?_
 intro x hT
 refine M_qg 13 [14] hT hS rfl (by kernel_rfl) rfl rfl rfl rfl rfl rfl (fun _ _ _ h => h) (fun w' hw => q_bin rfl rfl rfl n_eq) ?_
 intro x hT
 refine mq 14 [] hT hS rfl (fun w' hw => q_pick rfl rfl rfl rfl) fun x hT => ?_
 refine M_end (by kernel_rfl) ?_
 show Code.wp _ _ _ _ _
 clear q0 q1
 rcases hcase with ⟨rfl, rfl⟩ | ⟨f, hS', rfl, rfl, hfit, hf1, hf3, hl5, hl1, hl2, hl3⟩
 ·refine wp_cond_split (hT.ev rfl) (fun hq => ?_) (fun hq => by cases hq)
  refine wp_seq ?_
  have q0 := E.box.cell 0
  have q1 := E.box.cell 1
  refine wp_region_lit ?_
  refine lq hT (q_move rfl rfl) fun x hT => ?_
  refine lq hT (q_load rfl rfl (l_tree q0 q1)) fun x hT => ?_
  refine L_w hT rfl rfl rfl (w_callN rfl rfl (by kernel_rfl) (args := [_]) rfl (E.d2 hd hcc hD)) ?_
  rintro _ w ⟨rfl, m⟩ x hT
  have E := E.below m
  have q0 := E.box.cell 0
  have q1 := E.box.cell 1
  refine lq hT (q_bin rfl rfl rfl n_eqR) fun x hT => ?_
  refine lq hT (q_move rfl rfl) fun x hT => ?_
  refine L_qg hT rfl rfl rfl rfl rfl rfl (q_load rfl rfl (l_tree q0 q1)) ?_
  intro x hT
  refine L_wg hT rfl rfl rfl rfl rfl rfl (w_callN rfl rfl (by kernel_rfl) (args := [_]) rfl (E.o1 hd hcc hD)) ?_
  rintro _ w ⟨rfl, m⟩ x hT
  have E := E.below m
  refine L_qg hT rfl rfl rfl rfl rfl rfl (q_move rfl rfl) ?_
  intro x hT
  refine L_qg hT rfl rfl rfl rfl rfl rfl (q_bin rfl rfl rfl n_gt) ?_
  intro x hT
  refine L_qg hT rfl rfl rfl rfl rfl rfl (q_bin rfl rfl rfl b_eq) ?_
  intro x hT
  refine lq hT (q_pick rfl rfl rfl rfl) fun x hT => ?_
  refine lq hT (q_assign rfl rfl) fun x hT => ?_
  refine wpList_nil ?_
  show Code.wp _ _ _ _ _
  refine wp_ret ?_
  repeat refine then_ret ?_
  show bodyPost _ _ _ _ _ _
  exact ret_1 hT rfl rfl ⟨rfl, E.old⟩
 ·refine wp_cond_split (hT.ev rfl) (fun hq => ?_) (fun hq => ?_)
  ·exfalso
   have hq : ((f : Int) == 0) = true := hq
   simp at hq
   omega
  refine wp_skip ?_
  show Code.wp _ _ _ _ _
  refine wp_seq ?_
  have q0 := E.box.cell 0
  have q1 := E.box.cell 1
  refine wp_region_lit ?_
  refine lq hT (q_load rfl rfl (l_tree q0 q1)) fun x hT => ?_
  refine L_w hT rfl rfl rfl (w_callN rfl rfl (by kernel_rfl) (args := [_, _, _]) rfl (E.list hd hcc hD hfit hl5)) ?_
  rintro u w ⟨⟨Al, kl, rfl⟩, _, m⟩ x hT
  have E := E.below m
  refine lq hT (q_len rfl Try.underlying26 rfl) fun x hT => ?_
  refine lq hT (q_assign rfl rfl) fun x hT => ?_
  refine wpList_nil ?_
  show Code.wp _ _ _ _ _
  refine wp_seq ?_
  clear q0 q1
  have q0 := E.box.cell 0
  have q1 := E.box.cell 1
  generalize (Go.Proofs.Ytcolgghllacloaa.Q.listF (N.drop d) Go.Proofs.Ytcolgghllacloaa.R.e0 Go.Proofs.Ytcolgghllacloaa.R.e0 f root).length = many at *
  obtain rfl | rfl | rfl : f = 1 ∨ f = 2 ∨ f = 3 := by omega
  ·have hm := hl1 rfl
   refine wp_region_lit ?_
   refine lq hT (q_load rfl rfl (l_tree q0 q1)) fun x hT => ?_
   refine L_w hT rfl rfl rfl (w_callN rfl rfl (by kernel_rfl) (args := [_]) rfl (E.o1 hd hcc hD)) ?_
   rintro _ w ⟨rfl, m⟩ x hT
   have E := E.below m
   refine lq hT (q_move rfl rfl) fun x hT => ?_
   refine L_qg hT rfl rfl rfl rfl rfl rfl (q_move rfl rfl) ?_
   intro x hT
   refine L_qg hT rfl rfl rfl rfl rfl rfl (q_bin rfl rfl rfl (n_leT (by omega))) ?_
   intro x hT
   refine lq hT (q_pick rfl rfl rfl rfl) fun x hT => ?_
   refine lq hT (q_move rfl rfl) fun x hT => ?_
   refine L_qg hT rfl rfl rfl rfl rfl rfl (q_move rfl rfl) ?_
   intro x hT
   refine L_qg hT rfl rfl rfl rfl rfl rfl (q_bin rfl rfl rfl (n_leT (by omega))) ?_
   intro x hT
   refine L_qg hT rfl rfl rfl rfl rfl rfl (q_move rfl rfl) ?_
   intro x hT
   refine L_qn hT rfl rfl rfl rfl rfl rfl rfl ?_
   intro x hT
   refine L_qn hT rfl rfl rfl rfl rfl rfl rfl ?_
   intro x hT
   refine L_qg hT rfl rfl rfl rfl rfl rfl (q_pick rfl rfl rfl rfl) ?_
   intro x hT
   refine lq hT (q_pick rfl rfl rfl rfl) fun x hT => ?_
   refine lq hT (q_move rfl rfl) fun x hT => ?_
   refine L_qg hT rfl rfl rfl rfl rfl rfl (q_move rfl rfl) ?_
   intro x hT
   refine L_qg hT rfl rfl rfl rfl rfl rfl (q_bin rfl rfl rfl (n_ltT (by omega))) ?_
   intro x hT
   refine L_qg hT rfl rfl rfl rfl rfl rfl (q_move rfl rfl) ?_
   intro x hT
   refine L_qn hT rfl rfl rfl rfl rfl rfl rfl ?_
   intro x hT
   refine L_qn hT rfl rfl rfl rfl rfl rfl rfl ?_
   intro x hT
   refine L_qg hT rfl rfl rfl rfl rfl rfl (q_pick rfl rfl rfl rfl) ?_
   intro x hT
   refine lq hT (q_pick rfl rfl rfl rfl) fun x hT => ?_
   refine lq hT (q_move rfl rfl) fun x hT => ?_
   refine L_qg hT rfl rfl rfl rfl rfl rfl (q_move rfl rfl) ?_
   intro x hT
   refine L_qg hT rfl rfl rfl rfl rfl rfl (q_bin rfl rfl rfl (n_ltT (by omega))) ?_
   intro x hT
   refine L_qg hT rfl rfl rfl rfl rfl rfl (q_move rfl rfl) ?_
   intro x hT
   refine L_qn hT rfl rfl rfl rfl rfl rfl rfl ?_
   intro x hT
   refine L_qn hT rfl rfl rfl rfl rfl rfl rfl ?_
   intro x hT
   refine L_qg hT rfl rfl rfl rfl rfl rfl (q_pick rfl rfl rfl rfl) ?_
   intro x hT
   refine lq hT (q_pick rfl rfl rfl rfl) fun x hT => ?_
   refine lq hT (q_assign rfl rfl) fun x hT => ?_
   refine wpList_nil ?_
   show Code.wp _ _ _ _ _
   refine wp_ret ?_
   repeat refine then_ret ?_
   show bodyPost _ _ _ _ _ _
   exact ret_1 hT rfl rfl ⟨rfl, E.old⟩
  ·have hm := hl2 (by omega)
   by_cases hm4 : many ≤ 4
   ·skip
    refine wp_region_lit ?_
    refine lq hT (q_load rfl rfl (l_tree q0 q1)) fun x hT => ?_
    refine L_w hT rfl rfl rfl (w_callN rfl rfl (by kernel_rfl) (args := [_]) rfl (E.o1 hd hcc hD)) ?_
    rintro _ w ⟨rfl, m⟩ x hT
    have E := E.below m
    refine lq hT (q_move rfl rfl) fun x hT => ?_
    refine L_qg hT rfl rfl rfl rfl rfl rfl (q_move rfl rfl) ?_
    intro x hT
    refine L_qg hT rfl rfl rfl rfl rfl rfl (q_bin rfl rfl rfl (n_leT (by omega))) ?_
    intro x hT
    refine lq hT (q_pick rfl rfl rfl rfl) fun x hT => ?_
    refine lq hT (q_move rfl rfl) fun x hT => ?_
    refine L_qg hT rfl rfl rfl rfl rfl rfl (q_move rfl rfl) ?_
    intro x hT
    refine L_qg hT rfl rfl rfl rfl rfl rfl (q_bin rfl rfl rfl (n_leT (by omega))) ?_
    intro x hT
    refine L_qg hT rfl rfl rfl rfl rfl rfl (q_move rfl rfl) ?_
    intro x hT
    refine L_qn hT rfl rfl rfl rfl rfl rfl rfl ?_
    intro x hT
    refine L_qn hT rfl rfl rfl rfl rfl rfl rfl ?_
    intro x hT
    refine L_qg hT rfl rfl rfl rfl rfl rfl (q_pick rfl rfl rfl rfl) ?_
    intro x hT
    refine lq hT (q_pick rfl rfl rfl rfl) fun x hT => ?_
    refine lq hT (q_move rfl rfl) fun x hT => ?_
    refine L_qg hT rfl rfl rfl rfl rfl rfl (q_move rfl rfl) ?_
    intro x hT
    refine L_qg hT rfl rfl rfl rfl rfl rfl (q_bin rfl rfl rfl (n_ltF (by omega))) ?_
    intro x hT
    refine L_qg hT rfl rfl rfl rfl rfl rfl (q_move rfl rfl) ?_
    intro x hT
    refine L_qg hT rfl rfl rfl rfl rfl rfl (q_move rfl rfl) ?_
    intro x hT
    refine L_qg hT rfl rfl rfl rfl rfl rfl (q_bin rfl rfl rfl (n_geT (by omega))) ?_
    intro x hT
    refine L_qg hT rfl rfl rfl rfl rfl rfl (q_pick rfl rfl rfl rfl) ?_
    intro x hT
    refine lq hT (q_pick rfl rfl rfl rfl) fun x hT => ?_
    refine lq hT (q_move rfl rfl) fun x hT => ?_
    refine L_qg hT rfl rfl rfl rfl rfl rfl (q_move rfl rfl) ?_
    intro x hT
    refine L_qg hT rfl rfl rfl rfl rfl rfl (q_bin rfl rfl rfl (n_ltT (by omega))) ?_
    intro x hT
    refine L_qg hT rfl rfl rfl rfl rfl rfl (q_move rfl rfl) ?_
    intro x hT
    refine L_qn hT rfl rfl rfl rfl rfl rfl rfl ?_
    intro x hT
    refine L_qn hT rfl rfl rfl rfl rfl rfl rfl ?_
    intro x hT
    refine L_qg hT rfl rfl rfl rfl rfl rfl (q_pick rfl rfl rfl rfl) ?_
    intro x hT
    refine lq hT (q_pick rfl rfl rfl rfl) fun x hT => ?_
    refine lq hT (q_assign rfl rfl) fun x hT => ?_
    refine wpList_nil ?_
    show Code.wp _ _ _ _ _
    refine wp_ret ?_
    repeat refine then_ret ?_
    show bodyPost _ _ _ _ _ _
    exact ret_1 hT rfl rfl ⟨rfl, E.old⟩
   ·skip
    refine wp_region_lit ?_
    refine lq hT (q_load rfl rfl (l_tree q0 q1)) fun x hT => ?_
    refine L_w hT rfl rfl rfl (w_callN rfl rfl (by kernel_rfl) (args := [_]) rfl (E.o1 hd hcc hD)) ?_
    rintro _ w ⟨rfl, m⟩ x hT
    have E := E.below m
    refine lq hT (q_move rfl rfl) fun x hT => ?_
    refine L_qg hT rfl rfl rfl rfl rfl rfl (q_move rfl rfl) ?_
    intro x hT
    refine L_qg hT rfl rfl rfl rfl rfl rfl (q_bin rfl rfl rfl (n_leT (by omega))) ?_
    intro x hT
    refine lq hT (q_pick rfl rfl rfl rfl) fun x hT => ?_
    refine lq hT (q_move rfl rfl) fun x hT => ?_
    refine L_qg hT rfl rfl rfl rfl rfl rfl (q_move rfl rfl) ?_
    intro x hT
    refine L_qg hT rfl rfl rfl rfl rfl rfl (q_bin rfl rfl rfl (n_leF (by omega))) ?_
    intro x hT
    refine L_qg hT rfl rfl rfl rfl rfl rfl (q_move rfl rfl) ?_
    intro x hT
    refine L_qg hT rfl rfl rfl rfl rfl rfl (q_move rfl rfl) ?_
    intro x hT
    refine L_qg hT rfl rfl rfl rfl rfl rfl (q_bin rfl rfl rfl (n_gtT (by omega))) ?_
    intro x hT
    refine L_qg hT rfl rfl rfl rfl rfl rfl (q_pick rfl rfl rfl rfl) ?_
    intro x hT
    refine lq hT (q_pick rfl rfl rfl rfl) fun x hT => ?_
    refine lq hT (q_move rfl rfl) fun x hT => ?_
    refine L_qg hT rfl rfl rfl rfl rfl rfl (q_move rfl rfl) ?_
    intro x hT
    refine L_qg hT rfl rfl rfl rfl rfl rfl (q_bin rfl rfl rfl (n_ltF (by omega))) ?_
    intro x hT
    refine L_qg hT rfl rfl rfl rfl rfl rfl (q_move rfl rfl) ?_
    intro x hT
    refine L_qg hT rfl rfl rfl rfl rfl rfl (q_move rfl rfl) ?_
    intro x hT
    refine L_qg hT rfl rfl rfl rfl rfl rfl (q_bin rfl rfl rfl (n_geT (by omega))) ?_
    intro x hT
    refine L_qg hT rfl rfl rfl rfl rfl rfl (q_pick rfl rfl rfl rfl) ?_
    intro x hT
    refine lq hT (q_pick rfl rfl rfl rfl) fun x hT => ?_
    refine lq hT (q_move rfl rfl) fun x hT => ?_
    refine L_qg hT rfl rfl rfl rfl rfl rfl (q_move rfl rfl) ?_
    intro x hT
    refine L_qg hT rfl rfl rfl rfl rfl rfl (q_bin rfl rfl rfl (n_ltT (by omega))) ?_
    intro x hT
    refine L_qg hT rfl rfl rfl rfl rfl rfl (q_move rfl rfl) ?_
    intro x hT
    refine L_qn hT rfl rfl rfl rfl rfl rfl rfl ?_
    intro x hT
    refine L_qn hT rfl rfl rfl rfl rfl rfl rfl ?_
    intro x hT
    refine L_qg hT rfl rfl rfl rfl rfl rfl (q_pick rfl rfl rfl rfl) ?_
    intro x hT
    refine lq hT (q_pick rfl rfl rfl rfl) fun x hT => ?_
    refine lq hT (q_assign rfl rfl) fun x hT => ?_
    refine wpList_nil ?_
    show Code.wp _ _ _ _ _
    refine wp_ret ?_
    repeat refine then_ret ?_
    show bodyPost _ _ _ _ _ _
    exact ret_1 hT rfl rfl ⟨rfl, E.old⟩
  ·have hm := hl3 (by omega)
   refine wp_region_lit ?_
   refine lq hT (q_load rfl rfl (l_tree q0 q1)) fun x hT => ?_
   refine L_w hT rfl rfl rfl (w_callN rfl rfl (by kernel_rfl) (args := [_]) rfl (E.o1 hd hcc hD)) ?_
   rintro _ w ⟨rfl, m⟩ x hT
   have E := E.below m
   refine lq hT (q_move rfl rfl) fun x hT => ?_
   refine L_qg hT rfl rfl rfl rfl rfl rfl (q_move rfl rfl) ?_
   intro x hT
   refine L_qg hT rfl rfl rfl rfl rfl rfl (q_bin rfl rfl rfl (n_leT (by omega))) ?_
   intro x hT
   refine lq hT (q_pick rfl rfl rfl rfl) fun x hT => ?_
   refine lq hT (q_move rfl rfl) fun x hT => ?_
   refine L_qg hT rfl rfl rfl rfl rfl rfl (q_move rfl rfl) ?_
   intro x hT
   refine L_qg hT rfl rfl rfl rfl rfl rfl (q_bin rfl rfl rfl (n_leF (by omega))) ?_
   intro x hT
   refine L_qg hT rfl rfl rfl rfl rfl rfl (q_move rfl rfl) ?_
   intro x hT
   refine L_qg hT rfl rfl rfl rfl rfl rfl (q_move rfl rfl) ?_
   intro x hT
   refine L_qg hT rfl rfl rfl rfl rfl rfl (q_bin rfl rfl rfl (n_gtT (by omega))) ?_
   intro x hT
   refine L_qg hT rfl rfl rfl rfl rfl rfl (q_pick rfl rfl rfl rfl) ?_
   intro x hT
   refine lq hT (q_pick rfl rfl rfl rfl) fun x hT => ?_
   refine lq hT (q_move rfl rfl) fun x hT => ?_
   refine L_qg hT rfl rfl rfl rfl rfl rfl (q_move rfl rfl) ?_
   intro x hT
   refine L_qg hT rfl rfl rfl rfl rfl rfl (q_bin rfl rfl rfl (n_ltF (by omega))) ?_
   intro x hT
   refine L_qg hT rfl rfl rfl rfl rfl rfl (q_move rfl rfl) ?_
   intro x hT
   refine L_qg hT rfl rfl rfl rfl rfl rfl (q_move rfl rfl) ?_
   intro x hT
   refine L_qg hT rfl rfl rfl rfl rfl rfl (q_bin rfl rfl rfl (n_geT (by omega))) ?_
   intro x hT
   refine L_qg hT rfl rfl rfl rfl rfl rfl (q_pick rfl rfl rfl rfl) ?_
   intro x hT
   refine lq hT (q_pick rfl rfl rfl rfl) fun x hT => ?_
   refine lq hT (q_move rfl rfl) fun x hT => ?_
   refine L_qg hT rfl rfl rfl rfl rfl rfl (q_move rfl rfl) ?_
   intro x hT
   refine L_qg hT rfl rfl rfl rfl rfl rfl (q_bin rfl rfl rfl (n_ltF (by omega))) ?_
   intro x hT
   refine L_qg hT rfl rfl rfl rfl rfl rfl (q_move rfl rfl) ?_
   intro x hT
   refine L_qg hT rfl rfl rfl rfl rfl rfl (q_move rfl rfl) ?_
   intro x hT
   refine L_qg hT rfl rfl rfl rfl rfl rfl (q_bin rfl rfl rfl (n_geT (by omega))) ?_
   intro x hT
   refine L_qg hT rfl rfl rfl rfl rfl rfl (q_pick rfl rfl rfl rfl) ?_
   intro x hT
   refine lq hT (q_pick rfl rfl rfl rfl) fun x hT => ?_
   refine lq hT (q_assign rfl rfl) fun x hT => ?_
   refine wpList_nil ?_
   show Code.wp _ _ _ _ _
   refine wp_ret ?_
   repeat refine then_ret ?_
   show bodyPost _ _ _ _ _ _
   exact ret_1 hT rfl rfl ⟨rfl, E.old⟩
end Go.Proofs.Ytcolgghllacloaa.Tm
end

section
namespace Go.Proofs.Ytcolgghllacloaa.Tm
open Go.Rf (rep Here vSh shWf ShRep)
open Go.Proofs.Ytcolgghllacloaa.R (AllT)
open Go.RowKit Go.Proofs.Ytcolgghllacloaa.Q Go.Proofs.YtcolgghllacloaaW.PrintWords Go.Proofs.YtcolgghllacloaaW.PrintLast Go.Proofs.YtcolgghllacloaaW.PrintMore
abbrev codeTI : Go.Rf.TI := ⟨false, [.sl (.int .u8)], [], 24⟩
theorem law_all (w : World) (v0 : Value) (y0 : (vSh codeTI).D) (h0 : ShRep w (Here w) (vSh codeTI) y0 v0 []) (w0 : shWf (vSh codeTI) y0) :
  Calls Try.prog 4 #[v0] w fun e w' => e = .returned (.bool true) ∧ Below w.heap.size w w' := by
 obtain ⟨ys, hys⟩ : ∃ ys : List Int, ys = y0 := ⟨y0, rfl⟩
 subst hys
 refine law_deep w ys v0 (fun y hy => ?_) h0.1
 have h : ∀ y ∈ ys, Go.Rf.wfT (.int .u8) y := w0.2
 have h2 : (Lit.int .u8 y).wf = true := h y hy
 simp [Lit.wf, IntKind.min, IntKind.max, IntKind.bits, IntKind.signed] at h2
 omega
end Go.Proofs.Ytcolgghllacloaa.Tm
end

section
namespace Go.Proofs.Ytcolgghllacloaa.fnTreeDeep
open Go.Rf Go.Proofs.Ytcolgghllacloaa.R Go.ChangeShapes Go.WideShapes Go.ChangeAt Go.RowKit
theorem walk (w : World) (v0 : Value) (y0 : (vSh ⟨false, [.sl (.int .u8)], [], 24⟩).D) (h0 : ShRep w (Here w) (vSh ⟨false, [.sl (.int .u8)], [], 24⟩) y0 v0 []) (w0 : shWf (vSh ⟨false, [.sl (.int .u8)], [], 24⟩) y0) :
  Calls Try.prog 4 #[v0] w fun e w' => e = .returned (.bool true) ∧ Below w.heap.size w w' :=
 Go.Proofs.Ytcolgghllacloaa.Tm.law_all w v0 y0 h0 w0
theorem own : ownKnob Try.prog.godebug = none := by kernel_rfl
theorem laidOut : laidOutB Try.prog = true := by kernel_rfl
set_option maxRecDepth 100000 in
theorem lifted (os : Os) (started : os.Started) (H : Type) (enc : TypeId × Value → H) :
  ReturnsInHanded {} Try.checked os 4 .any (Rows.fnTreeDeepSpec.pre6 enc Try.prog Try.f4 Rows.fnTreeDeepRow.domain false) (Rows.fnTreeDeepSpec.post enc Try.prog Try.f4 false true false false) := by
 refine returnsInHanded_of_change_sized (C := Try.checked) own started (by kernel_rfl) Try.func4
  (ChangeSpec.witness6 (enc := enc) (C := Try.checked) false ⟨#[], #[.slice none 0 0], []⟩ 12 (by kernel_rfl) (by kernel_rfl) (by kernel_rfl) (by kernel_rfl)) ?_
 intro W base args ds gs before hval0 hW hcnd hsz0 _
 have hval : ∀ (j : Nat) t v, Try.f4.params[j]? = some t → args[j]? = some v → Value.okWide Try.prog W .any base t v := hval0
 have hW' := hW
 obtain ⟨p, q, hA0, hV, rfl, hfz, hnd⟩ := hW
 have hA : DataW.TrodAll enc Try.prog W 0 (fun _ => true) true Try.f4.params.toList args.toList ds p := hA0
 rw [Try.params4] at hA hval
 obtain ⟨v0, vs0, d0, ds0, p0, q0, hargs, rfl, rfl, h0, r0⟩ := trodAll_cons hA
 obtain ⟨rfl, rfl, rfl⟩ := trodAll_nil r0
 obtain rfl : args = #[v0] := by cases args; simp_all
 obtain ⟨rfl, rfl⟩ := trodVars_none hV
 have k0 := h0
 have lt0 : ∀ x ∈ p0, x.block < W.heap.size := by obtain ⟨m, hm⟩ := k0; exact DataW.trod_lt m _ _ _ hm
 obtain ⟨y0, hy0, w0⟩ := opnArg_ok (tab := tabs.ty) (P := Try.prog) (t := 37) (i := ⟨false, [.sl (.int .u8)], [], 24⟩) (by kernel_rfl) (hval 0 37 v0 rfl rfl) h0
 clear hA0 hval0 hsz0
 refine (walk W v0 y0 hy0 w0).mono fun e W' ⟨he, bel⟩ => ?_
 subst he
 exact ⟨_, rfl, _, _, _, [], _, [], hW', trodAll_mk1 (shut_bool Try.underlying4 _), (trodAll_cons_mk (Below.trod laidOut (by kernel_rfl) (of_decide_eq_true (by kernel_rfl)) k0 bel lt0) trodAll_mk0), rfl, bel.frame _, fun h => by cases h⟩
theorem over : Rows.fnTreeDeepRow.holds Try.pinned (OpenSpec.ofChange Rows.fnTreeDeepSpec) :=
 OpenClaim.holds_of_wide 4 Try.f4 rfl rfl rfl rfl rfl rfl rfl ⟨rfl, rfl, rfl, rfl, rfl⟩ rfl rfl rfl rfl rfl (by kernel_rfl) Try.func4 (by kernel_rfl)
  (of_decide_eq_true (by kernel_rfl)) (by unfold Func.isWrapper; first | (rw [if_pos (by decide +kernel)]; kernel_rfl) | (rw [if_neg (by decide +kernel)]; exact ⟨rfl, rfl⟩))
  (fun os started H enc _ => lifted os started H enc)
end Go.Proofs.Ytcolgghllacloaa.fnTreeDeep
end

section
theorem Go.Proofs.Ytcolgghllacloaa.fnTreeDeep_holds : Go.Proofs.Ytcolgghllacloaa.Rows.FnTreeDeepSaid := Go.Proofs.Ytcolgghllacloaa.fnTreeDeep.over
#print axioms Go.Proofs.Ytcolgghllacloaa.fnTreeDeep_holds
end
