import Derived.Test.YtdmcibaoebmieaaDoorQx0
import Derived.Test.YtdmcibaoebmieaaDoorQText
import Derived.Test.YtdmcibaoebmieaaDoorQShelf
import Derived.Test.YtdmcibaoebmieaaDoorQLaid
import Derived.Lib.AppendIntMem
namespace Go.Proofs.YtdmcibaoebmieaaDoor.Q
open Go.Shelf
open Go.RowKit Go.Proofs.YtdmcibaoebmieaaDoor.Q Go.Proofs.YtdmcibaoebmieaaDoorW.PrintWords Go.Proofs.YtdmcibaoebmieaaDoorW.PrintLast Go.Proofs.YtdmcibaoebmieaaDoorW.PrintMore
set_option linter.unusedVariables false
set_option linter.unusedSimpArgs false
attribute [local go_sem] Oper.semAt_some
theorem piece_len (m : Int) (x : Limb) : (piece m x.1).length ≤ 4 := by
  have := itoa_len x.1.2 x.2.1 x.2.2
  unfold piece
  split
  · rw [List.length_append, Lib.repeatL_length]; simp only [List.length_cons, List.length_nil]; omega
  · exact this
theorem pieces_len (m : Int) : ∀ pre : List Limb, (pre.flatMap fun x => piece m x.1).length ≤ 4 * pre.length
  | [] => by simp
  | x :: pre => by
    have h1 := piece_len m x
    have h2 := pieces_len m pre
    rw [List.flatMap_cons, List.length_append, List.length_cons]
    omega
theorem text_round {w W wm w3 : World} {n B0 : Nat} {m : Int} {cs : Array Value} {pre : List Limb} {x : Limb} {s : ByteArray} (hn : n = w.heap.size)
    (tB : Lib.IsBuilderF 112 5 w.heap.size (w.heap.size + 1) (Lib.byteCells (pre.flatMap fun x => piece m x.1)) W) (t1 : CellsAt W w.heap.size 57 cs) (t0 : CellsAt W (w.heap.size + 1 + 1) 57 cs) (tb : Below w.heap.size w W) (hb : Below W.heap.size W wm)
    (hB3 : Lib.BuilderAtF 112 5 w.heap.size (w.heap.size + 1) (.pointer (some ⟨w.heap.size + 1, 0, none⟩)) (Lib.byteCells (pre.flatMap fun x => piece m x.1) ++ Lib.strCells s) w3) (hb3 : Below w.heap.size wm w3) (hk3 : Lib.OthersKept 5 (some (w.heap.size + 1)) wm w3) (hs : s.data.toList = piece m x.1) :
    KeepsFrom B0 W w3 ∧ KpB w.heap.size (w.heap.size + 1 + 1) W w3 ∧ ((Lib.IsBuilderF 112 5 w.heap.size (w.heap.size + 1) (Lib.byteCells ((pre ++ [x]).flatMap fun x => piece m x.1)) w3 ∧ CellsAt w3 w.heap.size 57 cs) ∧ CellsAt w3 (w.heap.size + 1 + 1) 57 cs) ∧ Below w.heap.size w w3 := by
  have tBm := builder_below tB hb
  have hcell : ∃ cs t fz, wm.heap[w.heap.size + 1]? = some (.cells cs t fz) := by
    obtain h | h := tBm <;> (obtain ⟨_, v, hbk, _⟩ := h; exact ⟨_, _, _, hbk⟩)
  have hno : ∀ c fz, (Obj.cells cs 57 (0, 0)) ≠ .cells c 5 fz := fun c fz e => by injection e with _ e2 _; exact absurd e2 (by decide)
  have k1 : CellsAt w3 w.heap.size 57 cs := hk3 _ _ (t1.below hb t1.lt) (by simp) hno
  have k0 : CellsAt w3 (w.heap.size + 1 + 1) 57 cs := hk3 _ _ (t0.below hb t0.lt) (by simp) hno
  have hbW : Below w.heap.size W wm := hb.mono tb.size
  refine ⟨(keepsFrom_of_below hb).trans (keepsFrom_of_others hb3.size hk3 hcell), ⟨hbW.trans hb3, k0.trans t0.symm⟩, ⟨⟨.inr ?_, k1⟩, k0⟩, (tb.trans hbW).trans hb3⟩
  rw [List.flatMap_append, List.flatMap_singleton, Lib.byteCells_append, ← hs]
  exact hB3
set_option maxRecDepth 100000 in
set_option maxHeartbeats 4000000 in
theorem impl_text.calls (A0 : Option Addr) (c0 : Nat) (l0 : List Int) (w : World) (hlaid : Laid w) (hr0 : Kd.C (Kd.int .i64) w A0 l0.length l0) (hc0 : l0.length ≤ c0) (hz : ∀ y ∈ l0, 0 ≤ y ∧ y ≤ 9999) (hlen : l0.length ≤ 1000000) :
    Calls Tryd.prog 70 #[.slice A0 l0.length c0] w fun e w' => e = .returned (.string ⟨(textF l0).toArray⟩) ∧ Below w.heap.size w w' := by
  have HR0 := Aside0.mk hr0
  have HC0 := Aside0.mk hc0
  have HL := Aside0.mk hlen
  clear hr0 hc0 hlen
  by_cases hnil : l0 = []
  · subst hnil
    refine (callsIn_wide (n := 9)).1 ?_
    refine callsIn_of_wp_marks Tryd.func70 rfl trivial ?_ rfl
    simp only [Tryd.ntmps70, List.size_toArray, List.length_cons, List.length_nil, Nat.reduceAdd, Nat.reduceSub, Array.replicate_succ, Array.replicate_zero, List.push_toArray, List.append_toArray, List.nil_append, List.cons_append]
    gi_wp2
    exact ⟨_, results_tmp rfl _ _ _, rfl, (Below.refl _ w).alloc (Nat.le_refl _) _⟩
  · have hn : (l0.length : Int) ≠ 0 := by have := List.length_pos_iff.2 hnil; omega
    have hn1 : ((l0.length : Int) == 0) = false := beq_eq_false_iff_ne.mpr hn
    refine (callsIn_wide (n := 9)).1 ?_
    refine callsIn_of_wp_marks Tryd.func70 rfl trivial ?_ rfl
    simp only [Tryd.ntmps70, List.size_toArray, List.length_cons, List.length_nil, Nat.reduceAdd, Nat.reduceSub, Array.replicate_succ, Array.replicate_zero, List.push_toArray, List.append_toArray, List.nil_append, List.cons_append]
    gi_wp2_with (refine ⟨trivial, ?_⟩; gi_at_call 92; refine (backI_in Fence.wide _ trivial rfl _ _ _ _).mono ?_; rintro e w6 ⟨rfl, hw6⟩)
    have e0 : ((upto (limbAt l0 hz) l0.length).flatMap fun x => piece l0.length x.1) = textF l0 := by
      unfold textF upto
      rw [if_neg hnil, List.flatMap_map, List.flatMap_map]
      rfl
    obtain ⟨W0, hW0⟩ : ∃ W0, ((w.alloc (.cells #[.slice A0 l0.length c0] 57)).alloc (.cells #[.pointer none, .slice none 0 0] 112)).alloc (.cells #[.slice A0 l0.length c0] 57) = W0 := ⟨_, rfl⟩
    have s1 : CellsAt W0 w.heap.size 57 #[.slice A0 l0.length c0] := by rw [← hW0]; exact ((CellsAt.new w _ _).alloc _).alloc _
    have s0 : CellsAt W0 (w.heap.size + 1 + 1) 57 #[.slice A0 l0.length c0] := by rw [← hW0]; have := CellsAt.new ((w.alloc (.cells #[.slice A0 l0.length c0] 57)).alloc (.cells #[.pointer none, .slice none 0 0] 112)) 57 #[.slice A0 l0.length c0]; rwa [World.size_alloc, World.size_alloc] at this
    have sB : Lib.IsBuilderF 112 5 w.heap.size (w.heap.size + 1) (Lib.byteCells []) W0 := by
      have h : CellsAt W0 (w.heap.size + 1) 112 #[.pointer none, .slice none 0 0] := by rw [← hW0]; have := (CellsAt.new (w.alloc (.cells #[.slice A0 l0.length c0] 57)) 112 #[.pointer none, .slice none 0 0]).alloc (.cells #[.slice A0 l0.length c0] 57); rwa [World.size_alloc] at this
      exact .inl ⟨by omega, .slice none 0 0, h, World.ownsRowF_nil _ _ _ _, by simp [Value.ownBlock]⟩
    have hsz : W0.heap.size = w.heap.size + 1 + 1 + 1 := by rw [← hW0]; simp
    have hBW0 : Below w.heap.size w W0 := by rw [← hW0]; exact (((Below.refl _ w).alloc (Nat.le_refl _) _).alloc (by simp) _).alloc (by simp; omega) _
    rw [hW0]
    clear hW0 hw6
    refine wpIn_rangeFunc_ownH rfl (by decide) (gf := 121) (lb := #[.pointer (some ⟨w.heap.size + 1 + 1, 0, none⟩)]) rfl trivial (enters_of Tryd.func121 (by kernel_rfl) rfl)
      (backI_stops (fun x : Limb => x.1) (limbAt l0 hz) Fence.wide _ trivial rfl (by decide) (w.heap.size + 1 + 1) w A0 c0 l0 HC0.out (by have := HL.out; omega) HR0.out (fun _ _ => rfl) W0 hBW0 s0) KpB.trans (kpB_b (by omega) (by omega)) (Below.refl _ _) (fun _ => rfl)
      (fun pre W => ((Lib.IsBuilderF 112 5 w.heap.size (w.heap.size + 1) (Lib.byteCells (pre.flatMap fun x => piece l0.length x.1)) W ∧ CellsAt W w.heap.size 57 #[.slice A0 l0.length c0]) ∧ CellsAt W (w.heap.size + 1 + 1) 57 #[.slice A0 l0.length c0]) ∧ Below w.heap.size w W)
      (fun _ _ _ => False)
      (OwnFrom.and (OwnFrom.and (OwnFrom.and (Own.from (builder_own _ _ _ _ _) _) (Own.from (cellsAt_own _ _ _) _)) (Own.from (cellsAt_own _ _ _) _)) (ownFrom_below (Nat.le_refl _) (by omega)))
      (fun _ _ _ _ _ hs _ _ => hs)
      ⟨⟨⟨sB, s1⟩, s0⟩, hBW0⟩
      (fun x a' _ => a' = { tmps := #[.slice A0 l0.length c0, .pointer (some ⟨w.heap.size, 0, none⟩), .string ⟨#[]⟩, .pointer (some ⟨w.heap.size + 1, 0, none⟩), .int .i64 x.1.1, .int .i64 x.1.2, undef, .slice A0 l0.length c0, .int .i64 l0.length, .bool false, .slice A0 l0.length c0, .func (.func 121) #[] #[.pointer (some ⟨w.heap.size + 1 + 1, 0, none⟩)], .int .i64 x.1.1, .int .i64 x.1.2, undef, undef, undef, undef, undef, undef, undef, undef, undef, undef, undef, undef, undef, undef, undef, undef], defers := [] })
      (fun _ _ _ _ _ _ hs _ _ => hs)
      ?assign ?body ?done ?stop
    case assign =>
      rintro l pre x W K hI hK
      simp only [encI]
      gi_wp2
      exact hK _ _ (KeepsFrom.refl _ _) (KpB.refl _ _ _) hI rfl
    case body =>
      rintro l pre x a' W hl ⟨r, hr⟩ ⟨⟨⟨tB, t1⟩, t0⟩, tb⟩ rfl hlt
      have hx0 := x.2.1
      have hx1 := x.2.2
      have u1 : W.cell? ⟨w.heap.size, 0, none⟩ = some (.slice A0 l0.length c0) := t1.cell 0
      have hl4 := itoa_len x.1.2 hx0 hx1
      gi_wp2
      refine ⟨trivial, ?_⟩
      refine (CallsIn.inRound l (callsIn_wide.2 (Tryd.strconv_Itoa x.1.2 (by omega) (by omega) W (laid_below hlaid tb)))).mono ?_
      rintro e w1 ⟨rfl, k1, os1, hw1⟩
      have hb1 : Below W.heap.size W w1 := by rw [hw1]; exact Go.Lib.below_grow _ _ (Nat.le_refl _) _ _
      have u1' : w1.cell? ⟨w.heap.size, 0, none⟩ = some (.slice A0 l0.length c0) := (t1.below hb1 t1.lt).cell 0
      have ew : wrap64 ((l0.length : Int) - 1) = (l0.length : Int) - 1 := by have := HL.out; unfold wrap64; omega
      clear hw1
      by_cases hlt2 : x.1.1 < (l0.length : Int) - 1
      · have hd : decide (x.1.1 < (l0.length : Int) - 1) = true := decide_eq_true hlt2
        gi_wp2
        refine ⟨trivial, ?_⟩
        have hc : (4 - ((Lib.itoa x.1.2).length : Int)) = ((4 - (Lib.itoa x.1.2).length : Nat) : Int) := by omega
        rw [hc]
        refine (CallsIn.inRound l (callsIn_wide.2 (Tryd.strings_Repeat ⟨#[48]⟩ (4 - (Lib.itoa x.1.2).length) w1 (by omega) (by show 1 * _ ≤ _; omega)))).mono ?_
        rintro e w2 ⟨rfl, hb2⟩
        have hrl := Lib.repeatL_length [48] (4 - (Lib.itoa x.1.2).length)
        have hov : (9223372036854775807 < (Lib.repeatL [48] (4 - (Lib.itoa x.1.2).length)).length + (Lib.itoa x.1.2).length) = False := eq_false (by rw [hrl]; simp only [List.length_cons, List.length_nil]; omega)
        gi_wp2
        refine ⟨trivial, ?_⟩
        refine (CallsIn.inRound l (callsIn_wide.2 (bld_WriteString w.heap.size (w.heap.size + 1) _ _ w2 (builder_below (builder_below tB hb1) hb2) (by rw [Lib.byteCells_length]; have := pieces_len l0.length pre; have := HL.out; rw [ByteArray.size_append]; have e1 : (⟨(Lib.repeatL [48] (4 - (Lib.itoa x.1.2).length)).toArray⟩ : ByteArray).size = (Lib.repeatL [48] (4 - (Lib.itoa x.1.2).length)).length := rfl; have e2 : (⟨(Lib.itoa x.1.2).toArray⟩ : ByteArray).size = (Lib.itoa x.1.2).length := rfl; rw [e1, e2, hrl]; simp only [List.length_cons, List.length_nil]; omega) (by have := tb.size; have := hb1.size; have := hb2.size; omega)))).mono ?_
        rintro e w3 ⟨rfl, hB3, hb3, hk3⟩
        gi_wp2
        exact text_round rfl tB t1 t0 tb (hb1.trans (hb2.mono hb1.size)) hB3 hb3 hk3 (by unfold piece; rw [if_pos hlt2]; simp)
      · have hd : decide (x.1.1 < (l0.length : Int) - 1) = false := decide_eq_false hlt2
        gi_wp2
        refine ⟨trivial, ?_⟩
        refine (CallsIn.inRound l (callsIn_wide.2 (bld_WriteString w.heap.size (w.heap.size + 1) _ _ w1 (builder_below tB hb1) (by rw [Lib.byteCells_length]; have := pieces_len l0.length pre; have := HL.out; have e2 : (⟨(Lib.itoa x.1.2).toArray⟩ : ByteArray).size = (Lib.itoa x.1.2).length := rfl; rw [e2]; omega) (by have := tb.size; have := hb1.size; omega)))).mono ?_
        rintro e w3 ⟨rfl, hB3, hb3, hk3⟩
        gi_wp2
        exact text_round rfl tB t1 t0 tb hb1 hB3 hb3 hk3 (by unfold piece; rw [if_neg (by omega)])
    case done =>
      rintro D ys W hD rfl ⟨⟨⟨tB, t1⟩, t0⟩, tb⟩ hK
      gi_wp2_with (refine ⟨trivial, ?_⟩; gi_at_call 113; refine (callsIn_wide.2 (Tryd.Builder_String_any_k w.heap.size (w.heap.size + 1) _ _ tB (by have := tb.size; omega))).mono ?_; rintro e w7 ⟨rfl, hb7, hb8, hok⟩)
      have hK7 := hok D _ hK (fun e' => by cases e'; obtain h | h := tB <;> (obtain ⟨_, v, hbk, _⟩ := h; rw [hK] at hbk; cases hbk)) (fun _ _ h => by cases h)
      refine ⟨by simp, .inl ⟨_, _, rfl, run_takeDeferred hK7, ?_⟩⟩
      refine ⟨_, results_tmp rfl _ _ _, ?_, (tb.trans hb8).trans (belowK_b (w := w) (Nat.le_refl _) w7 D _ _ (by omega) hK7 rfl rfl)⟩
      rw [← e0]
      rfl
    case stop =>
      rintro D c pre W _ _ h _
      exact h.elim
end Go.Proofs.YtdmcibaoebmieaaDoor.Q
