/- A part of the proof that the law FnDecDiv answers true for every input: contracts of functions that it reaches, or its plain law. -/
import Derived.RangeFuncNested
import Derived.RangeFuncBound
import Derived.RangeFuncCalls
import Derived.RangeFuncLeaves
import Derived.Shelf.Abstract
import Derived.Shelf.RegionOpen
import Derived.WalkKit
import Derived.OwnWalkIn
import Derived.TacticsInMore
import Derived.LoopNIn
import Derived.LoopIn
import Derived.Shelf.Strings.BuilderF
import Derived.Lib.FrozenHead2
import Derived.Lib.OthersKept
import Derived.Lib.ItoaNum
import Derived.Lib.Repeat
import Derived.Test.YtennmjbdmglebaaGreatDoorProg
import Derived.KernelRfl
import Derived.Shelf.Strings.Builder1
import Derived.Shelf.Strings.Builder2
import Derived.Shelf.Strings.BuilderK
import Derived.Shelf.Strings.Builder2Cap
import Derived.Shelf.Strconv.Itoa0
import Derived.Shelf.Strconv.Itoa1
import Derived.Shelf.LaysM
import Derived.Shelf.Strconv.Itoa2
import Derived.Shelf.Strconv.Itoa3
import Derived.Shelf.Strings.Prefix
import Derived.Shelf.Bits.Mul64
import Derived.Shelf.Strings.Repeat
import Derived.Ground.Names2Prog
import Derived.Shelf.Slices.Clone
import Derived.Ground.SlgnProg
import Derived.Shelf.SlicesE.Clone
import Derived.Lib.LaidTab
import Derived.Lib.AppendIntMem
import Derived.Test.YtennmjbdmglebaaGreatDoorRows
import Derived.ProofKit
import Derived.OpenShut
import Derived.ShutString
import Derived.ChangeOld
import Derived.Below
import Derived.SizedLaws
import Derived.Carry
import Derived.Test.YtennmjbdmglebaaGreatDoorCards
import Derived.Test.YtennmjbdmglebaaGreatDoorTie
import Derived.LaidMore
import Derived.Stop.Joined
import Derived.Stop.LaidErr
import Derived.SevenTiedAt
import Derived.Test.YtennmjbdmglebaaGreatDoorCFnDecDivx0
import Derived.Test.YtennmjbdmglebaaGreatDoorCFnDecDivx1
import Derived.Test.YtennmjbdmglebaaGreatDoorCFnDecDivx2
import Derived.Test.YtennmjbdmglebaaGreatDoorCFnDecDivx3
namespace Go.Proofs.YtennmjbdmglebaaGreatDoor.Q
end Go.Proofs.YtennmjbdmglebaaGreatDoor.Q
namespace Go.Proofs.YtennmjbdmglebaaGreatDoor.R
end Go.Proofs.YtennmjbdmglebaaGreatDoor.R
namespace Go.Proofs.YtennmjbdmglebaaGreatDoorW.PrintLast
end Go.Proofs.YtennmjbdmglebaaGreatDoorW.PrintLast
namespace Go.Proofs.YtennmjbdmglebaaGreatDoorW.PrintMore
end Go.Proofs.YtennmjbdmglebaaGreatDoorW.PrintMore
namespace Go.Proofs.YtennmjbdmglebaaGreatDoorW.PrintWords
end Go.Proofs.YtennmjbdmglebaaGreatDoorW.PrintWords
section
namespace Go.Proofs.YtennmjbdmglebaaGreatDoor.Q
open Go.Shelf
open Go.RowKit Go.Proofs.YtennmjbdmglebaaGreatDoor.Q Go.Proofs.YtennmjbdmglebaaGreatDoorW.PrintWords Go.Proofs.YtennmjbdmglebaaGreatDoorW.PrintLast Go.Proofs.YtennmjbdmglebaaGreatDoorW.PrintMore
set_option linter.unusedVariables false
set_option linter.unusedSimpArgs false
/-- A block holds these cells. -/
def CellsAt (W : World) (B : Nat) (t : TypeId) (cs : Array Value) : Prop := W.heap[B]? = some (.cells cs t (0, 0))
theorem CellsAt.lt {W : World} {B : Nat} {t : TypeId} {cs : Array Value} (h : CellsAt W B t cs) : B < W.heap.size := (Array.getElem?_eq_some_iff.1 h).1
theorem CellsAt.new (W : World) (t : TypeId) (cs : Array Value) : CellsAt (W.alloc (.cells cs t)) W.heap.size t cs := World.alloc_heap_new W _
theorem CellsAt.kept {W W' : World} {row : Option Nat} {B : Nat} {t : TypeId} {cs : Array Value} (h : CellsAt W B t cs) (hg : W.grownBy W' row) (hne : some B ≠ row) : CellsAt W' B t cs := (hg.block B h.lt hne).trans h
theorem CellsAt.below {W W' : World} {B n : Nat} {t : TypeId} {cs : Array Value} (h : CellsAt W B t cs) (hb : Below n W W') (hn : B < n) : CellsAt W' B t cs := (hb.block B hn).trans h
theorem CellsAt.alloc {W : World} {B : Nat} {t : TypeId} {cs : Array Value} (h : CellsAt W B t cs) (o : Obj) : CellsAt (W.alloc o) B t cs := (Below.heap_alloc W o B h.lt).trans h
theorem CellsAt.cell {W : World} {B : Nat} {t : TypeId} {cs : Array Value} (h : CellsAt W B t cs) (j : Nat) : W.cell? ⟨B, j, none⟩ = cs[j]? := by
  simp [World.cell?, show W.heap[B]? = _ from h]
theorem cellsAt_own {β : Type} (B : Nat) (t : TypeId) (f : β → Array Value) : Own (fun s W => CellsAt W B t (f s)) := fun s X Y row hs hg hrow =>
  hs.kept hg (fun e' => by obtain ⟨o, ho, hc⟩ := hrow B e'.symm; rw [show X.heap[B]? = _ from hs] at ho; cases ho; cases hc)
/-- What has come when k rounds are over. -/
def upto {α : Type} (f : Nat → α) (k : Nat) : List α := (List.range k).map f
theorem upto_succ {α : Type} (f : Nat → α) (k : Nat) : upto f (k + 1) = upto f k ++ [f k] := by simp [upto, List.range_succ]
theorem upto_length {α : Type} (f : Nat → α) (k : Nat) : (upto f k).length = k := by simp [upto]
/-- What a round that goes on keeps: what lay below, and the box of the slice. -/
def KpB (n₀ Bs : Nat) (W W' : World) : Prop := Below n₀ W W' ∧ W'.heap[Bs]? = W.heap[Bs]?
theorem KpB.refl (n₀ Bs : Nat) (W : World) : KpB n₀ Bs W W := ⟨Below.refl _ _, rfl⟩
theorem KpB.trans {n₀ Bs : Nat} {A B C : World} (h : KpB n₀ Bs A B) (k : KpB n₀ Bs B C) : KpB n₀ Bs A C := ⟨h.1.trans k.1, k.2.trans h.2⟩
theorem kpB_b {n₀ Bs : Nat} {w : World} (h0 : n₀ ≤ w.heap.size) (hB : Bs < w.heap.size) : ∀ (W : World) (l : Nat) (o o' : Obj), w.heap.size ≤ l → W.heap[l]? = some o → o.isCells = false → o.isWalk = false → KpB n₀ Bs W (W.putObj l o') :=
  fun W l o o' hl h1 h2 h3 => ⟨belowK_b h0 W l o o' hl h1 h2 h3, World.putObj_heap_other (by omega)⟩
end Go.Proofs.YtennmjbdmglebaaGreatDoor.Q
end

section
namespace Go.Proofs.YtennmjbdmglebaaGreatDoor.Q
open Go.RowKit Go.Proofs.YtennmjbdmglebaaGreatDoor.Q Go.Proofs.YtennmjbdmglebaaGreatDoorW.PrintWords Go.Proofs.YtennmjbdmglebaaGreatDoorW.PrintLast Go.Proofs.YtennmjbdmglebaaGreatDoorW.PrintMore
set_option linter.unusedVariables false
set_option linter.unusedSimpArgs false
set_option maxHeartbeats 2000000 in
set_option maxRecDepth 100000 in
theorem bld_copyCheck (B b : Nat) (bs : List Value) (w : World) (h : Lib.IsBuilderF 108 5 B b bs w) :
    Calls Tryz.prog 115 #[.pointer (some ⟨b, 0, none⟩)] w fun e w' => e = .returned (.tuple #[]) ∧ (Lib.BuilderAtF 108 5 B b (.pointer (some ⟨b, 0, none⟩)) bs w' ∧ Below B w w' ∧ Lib.OthersKept 5 (some b) w w') := by
  have hsz : (Tryz.prog.info? 108).map (·.size) = some 2 := by kernel_rfl
  obtain ⟨j, hj, hjs⟩ := Option.map_eq_some_iff.1 hsz
  rcases h with h | h
  · have h' := h
    obtain ⟨hB, v, hbk, hown, hne⟩ := h'
    have c0 : w.cell? ⟨b, 0, none⟩ = some (.pointer none) := by rw [Lib.cell_of_heap hbk]; rfl
    have c1 : w.cell? ⟨b, 1, none⟩ = some v := by rw [Lib.cell_of_heap hbk]; rfl
    have f0 : w.frozen? ⟨b, 0, none⟩ = false := Lib.frozen_of_heap hbk 0
    go_enter Tryz.func115, Tryz.ntmps115
    go_wp2
    rw [Lib.run_to_unsafe w ⟨b, 0, none⟩ Tryz.underlying106 Tryz.underlying127 hj (by rw [hjs]; decide) h.shape (Nat.zero_lt_succ 1)]
    simp only [Result.andThen]
    rw [Oper.upon_value]
    go_wp2
    rw [run_callFunc_extern Tryz.func121 (by kernel_rfl) (by kernel_rfl) (by kernel_rfl) (e := Extern.AbiNoEscape.same) (by kernel_rfl)]
    rw [Lib.run_noEscape]
    simp only [Result.andThen]
    rw [Oper.upon_value]
    go_wp2
    rw [Lib.run_from_unsafe w ⟨b, 0, none⟩ Tryz.underlying127 Tryz.underlying106 hj h.shape (by kernel_rfl)]
    simp only [Result.andThen]
    rw [Oper.upon_value]
    go_wp2
    go_end0
    exact ⟨rfl, h.used _, (Below.refl B w).setCell (p := ⟨b, 0, none⟩) h.1 _, (Lib.OthersKept.refl _ _ w).setCell ⟨b, 0, none⟩ rfl _⟩
  · obtain ⟨hB, v, hbk, hown, hne⟩ := id h
    have c0 : w.cell? ⟨b, 0, none⟩ = some (.pointer (some ⟨b, 0, none⟩)) := by rw [Lib.cell_of_heap hbk]; rfl
    go_enter Tryz.func115, Tryz.ntmps115
    go_wp2
    rw [Lib.run_neq_ptr_same w _ Tryz.underlying106 hj]
    go_wp2
    go_end0
    exact ⟨rfl, h, Below.refl B _, Lib.OthersKept.refl _ _ _⟩
theorem infoByte : (Tryz.prog.info? 5).map (fun i => (i.zero, i.size, i.bytes)) = some (some (.int .u8 0), 1, 1) := by kernel_rfl
set_option maxHeartbeats 2000000 in
set_option maxRecDepth 100000 in
theorem bld_WriteString (B b : Nat) (bs : List Value) (s : ByteArray) (w : World) (h : Lib.IsBuilderF 108 5 B b bs w) (hlen : bs.length + s.size ≤ 140737488355328) (hBw : B ≤ w.heap.size) :
    Calls Tryz.prog 103 #[.pointer (some ⟨b, 0, none⟩), .string s] w fun e w' => e = .returned (.tuple #[.int .i64 s.size, .nilIface]) ∧ (Lib.BuilderAtF 108 5 B b (.pointer (some ⟨b, 0, none⟩)) (bs ++ Lib.strCells s) w' ∧ Below B w w' ∧ Lib.OthersKept 5 (some b) w w') := by
  obtain ⟨i0, hi, hz0, hz1, hz2⟩ := info_parts infoByte
  go_enter Tryz.func103, Tryz.ntmps103
  go_wp2_with (go_at_call 115; refine (bld_copyCheck B b bs _ h).mono ?_)
  rintro e w1 ⟨rfl, h1, hb1, hk1⟩
  obtain ⟨hB, v, hbk, hown, hne⟩ := h1
  have c0 : w1.cell? ⟨b, 0, none⟩ = some (.pointer (some ⟨b, 0, none⟩)) := by rw [Lib.cell_of_heap hbk]; rfl
  have c1 : w1.cell? ⟨b, 1, none⟩ = some v := by rw [Lib.cell_of_heap hbk]; rfl
  go_wp2_with (at_builtin; refine Lib.wpList_append_own_stringF _ rfl _ _ 22 9 rfl B 5 i0 Tryz.underlying22 Tryz.underlying9 hi hz0 hz1 hz2 _ _ _ rfl hown s rfl ?c3 ?c4 ?c5 ?_)
  case c3 => unfold maxLen; omega
  case c4 => omega
  case c5 => have := hb1.size; omega
  intro v' w2 hown' hgrow _
  have hlt : b < w1.heap.size := (Array.getElem?_eq_some_iff.1 hbk).1
  have hb2 : w2.heap[b]? = some (.cells #[.pointer (some ⟨b, 0, none⟩), v] 108 (0, 0)) := by
    rw [hgrow.block b hlt (fun e => hne e.symm)]
    exact hbk
  have d0 : w2.cell? ⟨b, 0, none⟩ = some (.pointer (some ⟨b, 0, none⟩)) := by rw [Lib.cell_of_heap hb2]; rfl
  have d1 : w2.cell? ⟨b, 1, none⟩ = some v := by rw [Lib.cell_of_heap hb2]; rfl
  have f1 : w2.frozen? ⟨b, 1, none⟩ = false := Lib.frozen_of_heap hb2 1
  obtain ⟨ao, n', cap, rfl⟩ : ∃ ao n' cap, v' = .slice ao n' cap := by
    rcases hown'.2 with ⟨hv, _⟩ | ⟨g, cap, cur, fz, hv, _⟩
    · exact ⟨_, _, _, hv⟩
    · exact ⟨_, _, _, hv⟩
  go_wp2
  go_ret2
  refine ⟨rfl, ?_, ?_, (hk1.grown hgrow (Lib.ownsRowF_kind hown)).setCell ⟨b, 1, none⟩ rfl _⟩
  · exact Lib.BuilderAtF.put (T := 108) (e := 5) hB hb2 (bs' := bs ++ Lib.strCells s) (by simpa [Lib.strCells_length] using hown') (by decide)
  · exact (hb1.grown hgrow (by have := hb1.size; omega) (fun k hk => (hown.lt k hk).1)).setCell (p := ⟨b, 1, none⟩) hB _
end Go.Proofs.YtennmjbdmglebaaGreatDoor.Q
end

section
namespace Go.Proofs.YtennmjbdmglebaaGreatDoor.Q
open Go.Shelf
open Go.RowKit Go.Proofs.YtennmjbdmglebaaGreatDoor.Q Go.Proofs.YtennmjbdmglebaaGreatDoorW.PrintWords Go.Proofs.YtennmjbdmglebaaGreatDoorW.PrintLast Go.Proofs.YtennmjbdmglebaaGreatDoorW.PrintMore
set_option linter.unusedVariables false
set_option linter.unusedSimpArgs false
attribute [local go_sem] Oper.semAt_some
def encI (x : Int × Int) : Array Value := #[.int .i64 x.1, .int .i64 x.2]
def bwI (zs : List Int) (j : Nat) : Int × Int := ((zs.length : Int) - 1 - j, rd zs ((zs.length : Int) - 1 - j))
set_option maxRecDepth 100000 in
set_option maxHeartbeats 2000000 in
theorem backI1_in {α : Type} (pr : α → Int × Int) (f : Nat → α) (F : Fence) (n : Nat) (h7 : F.fn 105) (hro : F.round = none) (hn : 1 ≤ n) (l Bs : Nat) (w0 : World) (A : Option Addr) (cap : Nat) (zs : List Int) (hcap : zs.length ≤ cap) (hlen : zs.length ≤ 1152921504606846976)
    (hC : Kd.C (Kd.int .i64) w0 A zs.length zs) (hf : ∀ k, k < zs.length → pr (f k) = bwI zs k) (J Jx : List α → World → Prop)
    (hY : ∀ pre x W, J pre W → pre.length < zs.length → YieldAt F (n - 1) Tryz.prog l (encI (pr x)) W fun e W' =>
      (e = .returned (.bool true) ∧ J (pre ++ [x]) W' ∧ KpB w0.heap.size Bs W W') ∨ (e = .returned (.bool false) ∧ Jx (pre ++ [x]) W'))
    (W : World) (hB : Below w0.heap.size w0 W) (hBs : CellsAt W Bs 55 #[.slice A zs.length cap]) (h0 : J [] W) :
    CallsIn F n Tryz.prog 105 #[.func (.yield l) #[] #[], .pointer (some ⟨Bs, 0, none⟩)] W fun e W' => (∃ v, e = .returned v) ∧
      ((∃ ys, ys = upto f zs.length ∧ J ys W') ∨ (∃ pre, (∃ k, k ≤ zs.length ∧ pre = upto f k) ∧ Jx pre W')) := by
  refine callsIn_of_wp Tryz.func105 rfl h7 ?_ hro
  simp only [Tryz.ntmps105, List.size_toArray, List.length_cons, List.length_nil, Nat.reduceAdd, Nat.reduceSub, Array.replicate_succ, Array.replicate_zero, List.push_toArray, List.append_toArray, List.nil_append, List.cons_append]
  have e1 : wrap64 ((zs.length : Int) - 1) = (zs.length : Int) - 1 := by unfold wrap64; omega
  have hc0 : W.cell? ⟨Bs, 0, none⟩ = some (.slice A zs.length cap) := hBs.cell 0
  gi_wp2
  gi_loopw [3] (fun i wr => ∃ k : Nat, k ≤ zs.length ∧ i = .int .i64 ((zs.length : Int) - 1 - k) ∧ J (upto f k) wr ∧ KpB w0.heap.size Bs W wr)
    (fun i _ => (intOf i + 1).toNat)
  case atStart => exact ⟨0, Nat.zero_le _, by simp [*], h0, KpB.refl _ _ _⟩
  case round =>
    obtain ⟨k, hk, rfl, hJs, hnx⟩ := hrel
    have hbx : CellsAt wr Bs 55 #[.slice A zs.length cap] := hnx.2.trans hBs
    have hc1 : wr.cell? ⟨Bs, 0, none⟩ = some (.slice A zs.length cap) := hbx.cell 0
    have hCr := Kd.C_below hC (hB.trans hnx.1)
    by_cases hlt : k < zs.length
    · obtain ⟨fn, tmps, assign, body, hy, hR⟩ := hY _ (f k) wr hJs (by rw [upto_length]; exact hlt)
      rw [hf k hlt] at hy
      simp only [encI, bwI] at hy
      obtain ⟨i, hi⟩ : ∃ i : Int, (zs.length : Int) - 1 - k = i := ⟨_, rfl⟩
      rw [hi] at hy ⊢
      have p0 : 0 ≤ i := by omega
      have q0 : i < (zs.length : Int) := by omega
      obtain ⟨ad, eA, hx0⟩ := Kd.at_int hCr i p0 q0
      subst eA
      have p0' := eq_true p0
      have q0' := eq_true q0
      have d0 : decide (i < 0) = false := decide_eq_false (by omega)
      have d1 : decide (0 ≤ i) = true := decide_eq_true p0
      gi_wp2
      refine hR.mono ?_
      rintro e W3 (⟨rfl, hJ3, hk3⟩ | ⟨rfl, hJx3⟩)
      · have e2 : wrap64 (i - 1) = i - 1 := by unfold wrap64; omega
        gi_wp2
        go_roundw
        case rel => exact ⟨k + 1, by omega, by simp [*]; omega, by rw [upto_succ]; exact hJ3, hnx.trans hk3⟩
        case measure => simp [intOf, e2]; omega
      · gi_wp2
        refine bodyPost_ret (results_none rfl _ _ _) rfl ?_
        exact ⟨⟨_, rfl⟩, .inr ⟨_, ⟨k + 1, by omega, (upto_succ _ _).symm⟩, hJx3⟩⟩
    · obtain rfl : k = zs.length := by omega
      have d0 : decide (0 ≤ (zs.length : Int) - 1 - zs.length) = false := decide_eq_false (by omega)
      gi_wp2
      go_end0
      exact ⟨⟨_, rfl⟩, .inl ⟨_, rfl, hJs⟩⟩
set_option maxHeartbeats 1000000 in
theorem backI_in (F : Fence) (n : Nat) (h5 : F.fn 89) (hro : F.round = none) (a : Option Addr) (len cap : Nat) (w : World) :
    CallsIn F n Tryz.prog 89 #[.slice a len cap] w fun e w' => e = .returned (.func (.func 105) #[] #[.pointer (some ⟨w.heap.size, 0, none⟩)]) ∧ w' = w.alloc (.cells #[.slice a len cap] 55) := by
  refine callsIn_of_wp Tryz.func89 rfl h5 ?_ hro
  simp only [Tryz.ntmps89, List.size_toArray, List.length_cons, List.length_nil, Nat.reduceAdd, Nat.reduceSub, Array.replicate_succ, Array.replicate_zero, List.push_toArray, List.append_toArray, List.nil_append, List.cons_append]
  gi_wp2
  go_ret
  exact ⟨rfl, rfl⟩
theorem backI_stops {α : Type} (pr : α → Int × Int) (f : Nat → α) (F : Fence) (n : Nat) (h7 : F.fn 105) (hro : F.round = none) (hn : 1 ≤ n) (Bs : Nat) (w0 : World) (A : Option Addr) (cap : Nat) (zs : List Int) (hcap : zs.length ≤ cap) (hlen : zs.length ≤ 1152921504606846976)
    (hC : Kd.C (Kd.int .i64) w0 A zs.length zs) (hf : ∀ k, k < zs.length → pr (f k) = bwI zs k) (w : World) (hB : Below w0.heap.size w0 w) (hBs : CellsAt w Bs 55 #[.slice A zs.length cap]) :
    SeqStopsK F n Tryz.prog 105 #[.pointer (some ⟨Bs, 0, none⟩)] (fun x => encI (pr x)) (KpB w0.heap.size Bs) (fun ys => ys = upto f zs.length)
      (fun pre => ∃ k, k ≤ zs.length ∧ pre = upto f k) zs.length w := fun l J Jx W hW _ _ hY h0 =>
  backI1_in pr f F n h7 hro hn l Bs w0 A cap zs hcap hlen hC hf J Jx hY W (hB.trans (hW.mono hB.size)) (hBs.below hW hBs.lt) h0
theorem grownBy_of_below {W W' : World} (h : Below W.heap.size W W') : W.grownBy W' none := ⟨h.os, h.tape, h.output, h.size, fun k hk _ => h.block k hk⟩
theorem builder_below {T e : TypeId} {B b : Nat} {bs : List Value} {W W' : World} (h : Lib.IsBuilderF T e B b bs W) (hb : Below W.heap.size W W') : Lib.IsBuilderF T e B b bs W' := by
  have key : ∀ p, Lib.BuilderAtF T e B b p bs W → Lib.BuilderAtF T e B b p bs W' := fun p h => by
    obtain ⟨hB, v, hbk, hown, hne⟩ := id h
    refine ⟨hB, v, (hb.block b h.lt).trans hbk, hown.kept (grownBy_of_below hb) ?_, hne⟩
    by_cases hv : v.ownBlock = none
    · exact .inl hv
    · exact .inr hv
  exact h.imp (key _) (key _)
theorem keepsFrom_of_others {e : TypeId} {b n : Nat} {W W' : World} (hs : W.heap.size ≤ W'.heap.size) (h : Lib.OthersKept e (some b) W W') (hc : ∃ cs t fz, W.heap[b]? = some (.cells cs t fz)) : KeepsFrom n W W' :=
  ⟨hs, fun k o _ hk ho => h k o hk (fun e' => by cases e'; obtain ⟨cs, t, fz, hc⟩ := hc; rw [hk] at hc; cases hc; cases ho) (fun c fz e' => by subst e'; cases ho)⟩
theorem keepsFrom_of_below {n : Nat} {W W' : World} (h : Below W.heap.size W W') : KeepsFrom n W W' :=
  ⟨h.size, fun k o _ hk _ => (h.block k (Array.getElem?_eq_some_iff.1 hk).1).trans hk⟩
/-- A builder stays one while what is no cells turns. -/
theorem builder_own {β : Type} (T e : TypeId) (B b : Nat) (f : β → List Value) : Own (fun s W => Lib.IsBuilderF T e B b (f s) W) := fun s X Y row hs hg hr => by
  have key : ∀ p, Lib.BuilderAtF T e B b p (f s) X → Lib.BuilderAtF T e B b p (f s) Y := fun p h => by
    obtain ⟨hB, v, hbk, hown, hne⟩ := id h
    refine ⟨hB, v, (hg.block b h.lt (fun e' => ?_)).trans hbk, hown.kept hg ?_, hne⟩
    · obtain ⟨o, ho, hc⟩ := hr b e'.symm
      rw [hbk] at ho; cases ho; cases hc
    · by_cases hv : v.ownBlock = none
      · exact .inl hv
      · refine .inr fun e' => ?_
        obtain ⟨g, hgk⟩ := Option.ne_none_iff_exists'.1 hv
        obtain ⟨o, ho, hc⟩ := hr g (by rw [← e', hgk])
        obtain ⟨c, fz, hk⟩ := Lib.ownsRowF_kind hown g hgk
        rw [hk] at ho; cases ho; cases hc
  exact hs.imp (key _) (key _)
/-- A limb, and its place. -/
abbrev Limb := { x : Int × Int // 0 ≤ x.2 ∧ x.2 ≤ 9999 }
theorem rd_limb {zs : List Int} (hz : ∀ y ∈ zs, 0 ≤ y ∧ y ≤ 9999) (i : Int) : 0 ≤ rd zs i ∧ rd zs i ≤ 9999 := by
  unfold rd
  rw [List.getD_eq_getElem?_getD]
  cases h : zs[i.toNat]? with
  | none => simp
  | some y => exact hz y (List.mem_of_getElem? h)
def limbAt (zs : List Int) (hz : ∀ y ∈ zs, 0 ≤ y ∧ y ≤ 9999) (k : Nat) : Limb := ⟨bwI zs k, rd_limb hz _⟩
/-- A limb's figures: the top one as it is, any other four figures wide. -/
def piece (n : Int) (x : Int × Int) : List UInt8 := if x.1 < n - 1 then Lib.repeatL [48] (4 - (Lib.itoa x.2).length) ++ Lib.itoa x.2 else Lib.itoa x.2
theorem decDigits_len : ∀ (k u : Nat), u < 10 ^ (k + 1) → (Lib.decDigits u).length ≤ k + 1 := by
  intro k
  induction k with
  | zero => intro u h; rw [Lib.decDigits, dif_pos (by simpa using h)]; simp
  | succ k ih =>
    intro u h
    rw [Lib.decDigits]
    by_cases hu : u < 10
    · rw [dif_pos hu]; simp
    · rw [dif_neg hu, List.length_append]
      have := ih (u / 10) (by rw [Nat.pow_succ] at h; omega)
      simp only [List.length_cons, List.length_nil]
      omega
theorem itoa_len (x : Int) (h0 : 0 ≤ x) (h1 : x ≤ 9999) : (Lib.itoa x).length ≤ 4 := by
  unfold Lib.itoa
  rw [if_neg (by omega)]
  exact decDigits_len 3 x.toNat (by omega)
/-- Limbs as a text. -/
def textF (zs : List Int) : List UInt8 := if zs = [] then [48] else (upto (bwI zs) zs.length).flatMap (piece zs.length)
end Go.Proofs.YtennmjbdmglebaaGreatDoor.Q
end

section
/-! Rf: slices.Backward keeps its contract. -/
set_option autoImplicit false
set_option linter.unusedVariables false
set_option linter.unusedSimpArgs false
namespace Go.Proofs.YtennmjbdmglebaaGreatDoor.R
open Go.Rf
section
open Go.Shelf Go.RowKit Go.Proofs.YtennmjbdmglebaaGreatDoor.Q Go.Proofs.YtennmjbdmglebaaGreatDoorW.PrintWords Go.Proofs.YtennmjbdmglebaaGreatDoorW.PrintLast Go.Proofs.YtennmjbdmglebaaGreatDoorW.PrintMore
attribute [local go_sem] Oper.semAt_some
set_option maxRecDepth 100000 in
set_option maxHeartbeats 2000000 in
theorem iter_ok : IterOk Tryz.prog 105 := by
  intro B T A cap vs l J W hcap hlen hJ hY h0
  refine (callsIn_wide (n := 1)).1 ?_
  refine callsIn_of_wp Tryz.func105 rfl trivial ?_ rfl
  simp only [Tryz.ntmps105, List.size_toArray, List.length_cons, List.length_nil, Nat.reduceAdd, Nat.reduceSub, Array.replicate_succ, Array.replicate_zero, List.push_toArray, List.append_toArray, List.nil_append, List.cons_append]
  have e1 : Go.RowKit.wrap64 ((vs.length : Int) - 1) = (vs.length : Int) - 1 := by unfold Go.RowKit.wrap64; omega
  have hc0 : W.cell? ⟨B, 0, none⟩ = some (.slice A vs.length cap) := by simp [World.cell?, (hJ 0 W h0).1]
  gi_wp2
  gi_loopw [3] (fun i wr => ∃ k : Nat, k ≤ vs.length ∧ i = .int .i64 ((vs.length : Int) - 1 - k) ∧ J k wr)
    (fun i _ => (intOf i + 1).toNat)
  case atStart => exact ⟨0, Nat.zero_le _, by simp [*], h0⟩
  case round =>
    obtain ⟨k, hk, rfl, hJs⟩ := hrel
    obtain ⟨hbx, hcs⟩ := hJ k wr hJs
    have hc1 : wr.cell? ⟨B, 0, none⟩ = some (.slice A vs.length cap) := by simp [World.cell?, hbx]
    by_cases hlt : k < vs.length
    · obtain ⟨u, hu⟩ : ∃ u, vs[vs.length - 1 - k]? = some u := ⟨vs[vs.length - 1 - k]'(by omega), List.getElem?_eq_getElem (by omega)⟩
      obtain ⟨ad, eA, hspot, hx0⟩ := hcs _ u hu
      obtain ⟨fn, tmps, assign, body, hy, hR⟩ := hY k wr u hJs hlt hu
      have ei : ((vs.length - 1 - k : Nat) : Int) = (vs.length : Int) - 1 - k := by omega
      rw [ei] at hy
      obtain ⟨i, hi⟩ : ∃ i : Int, (vs.length : Int) - 1 - k = i := ⟨_, rfl⟩
      rw [hi] at hy ⊢
      have p0 : 0 ≤ i := by omega
      have q0 : i < (vs.length : Int) := by omega
      have ein : vs.length - 1 - k = i.toNat := by omega
      rw [ein] at hx0
      subst eA
      have p0' := eq_true p0
      have q0' := eq_true q0
      have d0 : decide (i < 0) = false := decide_eq_false (by omega)
      have d1 : decide (0 ≤ i) = true := decide_eq_true p0
      gi_wp2
      refine hR.mono ?_
      rintro e W3 ⟨rfl, hJ3⟩
      have e2 : Go.RowKit.wrap64 (i - 1) = i - 1 := by unfold Go.RowKit.wrap64; omega
      gi_wp2
      go_roundw
      case rel => exact ⟨k + 1, by omega, by simp [*]; omega, hJ3⟩
      case measure => simp [intOf, e2]; omega
    · obtain rfl : k = vs.length := by omega
      have d0 : decide (0 ≤ (vs.length : Int) - 1 - vs.length) = false := decide_eq_false (by omega)
      gi_wp2
      go_end0
      exact ⟨⟨_, rfl⟩, hJs⟩
theorem back_ok : BackOk Tryz.prog 89 105 55 := fun A len cap w => callsIn_wide.1 (Q.backI_in Fence.wide 9 trivial rfl A len cap w)
theorem iter_known : isKnown Tryz.prog 105 = true := by kernel_rfl
end
theorem backs_ok : BacksOk Tryz.prog [(89, 105, 55)] := ⟨⟨back_ok, iter_ok, iter_known⟩, trivial⟩
end Go.Proofs.YtennmjbdmglebaaGreatDoor.R
end

section
/-! Rf: the seat's tables. -/
set_option autoImplicit false
namespace Go.Proofs.YtennmjbdmglebaaGreatDoor.R
open Go.Rf
noncomputable def tabs : Tabs where
  ty := [(3, ⟨false, [.int .i64], [], 8⟩),
    (4, ⟨false, [.bool], [], 1⟩),
    (5, ⟨false, [.int .u8], [], 1⟩),
    (9, ⟨false, [.str], [], 16⟩),
    (22, ⟨false, [.sl (.int .u8)], [], 24⟩),
    (23, ⟨false, [.sl (.int .i64)], [], 24⟩),
    (25, ⟨true, [.bool, .sl (.int .i64)], [(0, 1, false), (1, 1, false)], 32⟩),
    (27, ⟨true, [.bool, .sl (.int .i64), .int .i64], [(0, 2, true), (2, 1, false)], 40⟩),
    (55, ⟨false, [.sl (.int .i64)], [], 24⟩),
    (57, ⟨true, [.bool, .sl (.int .i64)], [(0, 1, false), (1, 1, false)], 32⟩),
    (67, ⟨false, [.int .u64], [], 8⟩),
    (74, ⟨true, [.sl (.int .u8), .int .i64], [(0, 1, false), (1, 1, false)], 32⟩)]
  el := [(22, 5), (23, 3), (55, 3)]
  ifcs := []
  known := [8, 13, 21, 22, 23, 24, 25, 26, 27, 28, 29, 30, 31, 32, 33, 34, 35, 37, 38, 39, 40, 41, 42, 44, 45, 47, 48, 49, 50, 51, 53, 55, 56, 57, 58, 59, 60, 61, 62, 63, 64, 65, 66, 67, 68, 69, 70, 71, 72, 74, 75, 76, 77, 78, 79, 80, 81, 82, 85, 86, 87, 88, 89, 90, 91, 92, 93, 94, 95, 96, 97, 98, 99, 100, 106, 107, 108, 109]
  spec := [(8, ⟨[.c (.v (.sl (.int .u8)))], [.c (.v .bool)]⟩),
    (13, ⟨[.agg [.v .bool, .v (.sl (.int .i64)), .v (.int .i64)], .agg [.v .bool, .v (.sl (.int .i64)), .v (.int .i64)]], [.c (.v .bool)]⟩),
    (21, ⟨[.c (.v (.sl (.int .u8)))], [.agg [.v .bool, .v (.sl (.int .i64)), .v (.int .i64)], .agg [.v .bool, .v (.sl (.int .i64)), .v (.int .i64)], .c (.v (.int .i64)), .c (.v (.int .i64))]⟩),
    (22, ⟨[.agg [.v .bool, .v (.sl (.int .i64)), .v (.int .i64)], .agg [.v .bool, .v (.sl (.int .i64)), .v (.int .i64)], .c (.v (.int .i64)), .c (.v (.int .i64))], [.agg [.v .bool, .v (.sl (.int .i64)), .v (.int .i64)], .c (.v (.int .i64))]⟩),
    (23, ⟨[.agg [.v .bool, .v (.sl (.int .i64)), .v (.int .i64)], .agg [.v .bool, .v (.sl (.int .i64)), .v (.int .i64)], .c (.v (.int .i64)), .c (.v (.int .i64))], [.agg [.v .bool, .v (.sl (.int .i64)), .v (.int .i64)], .c (.v (.int .i64))]⟩),
    (24, ⟨[.c (.v (.int .i64))], [.agg [.v .bool, .v (.sl (.int .i64))], .c (.v .bool)]⟩),
    (25, ⟨[.agg [.v .bool, .v (.sl (.int .i64))], .agg [.v .bool, .v (.sl (.int .i64))]], [.agg [.v .bool, .v (.sl (.int .i64))], .c (.v .bool)]⟩),
    (26, ⟨[.agg [.v .bool, .v (.sl (.int .i64))], .agg [.v .bool, .v (.sl (.int .i64))]], [.agg [.v .bool, .v (.sl (.int .i64))], .c (.v .bool)]⟩),
    (27, ⟨[.agg [.v .bool, .v (.sl (.int .i64))], .agg [.v .bool, .v (.sl (.int .i64))]], [.agg [.v .bool, .v (.sl (.int .i64))], .c (.v .bool)]⟩),
    (28, ⟨[.agg [.v .bool, .v (.sl (.int .i64))], .agg [.v .bool, .v (.sl (.int .i64))]], [.c (.v (.int .i64))]⟩),
    (29, ⟨[.c (.v (.sl (.int .u8)))], [.box [.v (.sl (.int .u8)), .v (.int .i64)]]⟩),
    (30, ⟨[.box [.v (.sl (.int .u8)), .v (.int .i64)]], [.agg [.v .bool, .v (.sl (.int .i64)), .v (.int .i64)]]⟩),
    (31, ⟨[.box [.v (.sl (.int .u8)), .v (.int .i64)], .c (.o (.int .i64) 3 false)], [.c (.v (.int .i64))]⟩),
    (32, ⟨[.box [.v (.sl (.int .u8)), .v (.int .i64)], .c (.v (.int .i64))], [.c (.v (.int .i64))]⟩),
    (33, ⟨[.agg [.v .bool, .v (.sl (.int .i64)), .v (.int .i64)]], [.c (.v .bool)]⟩),
    (34, ⟨[.c (.v (.int .i64)), .c (.v (.int .i64))], [.c (.v .bool)]⟩),
    (35, ⟨[.agg [.v .bool, .v (.sl (.int .i64))], .c (.v (.int .i64))], [.agg [.v .bool, .v (.sl (.int .i64)), .v (.int .i64)], .c (.v (.int .i64))]⟩),
    (37, ⟨[.agg [.v .bool, .v (.sl (.int .i64))], .c (.v (.sl (.int .i64))), .c (.v (.int .i64))], [.agg [.v .bool, .v (.sl (.int .i64))]]⟩),
    (38, ⟨[.agg [.v .bool, .v (.sl (.int .i64))]], [.agg [.v .bool, .v (.sl (.int .i64))]]⟩),
    (39, ⟨[.c (.v (.int .i64))], [.c (.v (.sl (.int .i64)))]⟩),
    (40, ⟨[.agg [.v .bool, .v (.sl (.int .i64)), .v (.int .i64)]], [.c (.v .bool)]⟩),
    (41, ⟨[.c (.v (.int .i64)), .c (.v (.int .i64)), .c (.v (.int .i64))], [.c (.v .bool)]⟩),
    (42, ⟨[.c (.v (.int .i64))], [.c (.v .bool)]⟩),
    (44, ⟨[.agg [.v .bool, .v (.sl (.int .i64))], .agg [.v .bool, .v (.sl (.int .i64))]], [.c (.v .bool)]⟩),
    (45, ⟨[.agg [.v .bool, .v (.sl (.int .i64)), .v (.int .i64)], .agg [.v .bool, .v (.sl (.int .i64)), .v (.int .i64)]], [.c (.v .bool)]⟩),
    (47, ⟨[.agg [.v .bool, .v (.sl (.int .i64))], .agg [.v .bool, .v (.sl (.int .i64))]], [.agg [.v .bool, .v (.sl (.int .i64))]]⟩),
    (48, ⟨[.agg [.v .bool, .v (.sl (.int .i64))]], [.agg [.v .bool, .v (.sl (.int .i64))]]⟩),
    (49, ⟨[.c (.v .bool), .c (.v (.sl (.int .i64)))], [.agg [.v .bool, .v (.sl (.int .i64))], .c (.v .bool)]⟩),
    (50, ⟨[.c (.v (.int .u64))], [.c (.v (.sl (.int .i64)))]⟩),
    (51, ⟨[.box [.v (.sl (.int .u8)), .v (.int .i64)], .c (.v (.int .i64))], [.agg [.v .bool, .o (.int .i64) 3 true]]⟩),
    (53, ⟨[.agg [.v .bool, .v (.sl (.int .i64))], .agg [.v .bool, .v (.sl (.int .i64))]], [.agg [.v .bool, .v (.sl (.int .i64))]]⟩),
    (55, ⟨[.c (.v (.int .i64))], [.agg [.v .bool, .v (.sl (.int .i64))]]⟩),
    (56, ⟨[.c (.v (.sl (.int .i64))), .c (.v (.sl (.int .i64)))], [.c (.v (.sl (.int .i64)))]⟩),
    (57, ⟨[.agg [.v .bool, .v (.sl (.int .i64)), .v (.int .i64)], .agg [.v .bool, .v (.sl (.int .i64)), .v (.int .i64)], .c (.v (.int .i64)), .c (.v (.int .i64))], [.agg [.v .bool, .v (.sl (.int .i64)), .v (.int .i64)], .c (.v (.int .i64))]⟩),
    (58, ⟨[.c (.v (.int .i64)), .c (.v (.int .i64)), .c (.v (.int .i64))], [.c (.v .bool)]⟩),
    (59, ⟨[.agg [.v .bool, .v (.sl (.int .i64))], .agg [.v .bool, .v (.sl (.int .i64))]], [.c (.v .bool)]⟩),
    (60, ⟨[.agg [.v .bool, .v (.sl (.int .i64))]], [.c (.v (.int .i64))]⟩),
    (61, ⟨[.box [.v (.sl (.int .u8)), .v (.int .i64)]], [.agg [.v .bool, .v (.sl (.int .i64)), .v (.int .i64)]]⟩),
    (62, ⟨[.box [.v (.sl (.int .u8)), .v (.int .i64)]], [.agg [.v .bool, .v (.sl (.int .i64))]]⟩),
    (63, ⟨[.agg [.v .bool, .v (.sl (.int .i64))]], [.c (.v .bool)]⟩),
    (64, ⟨[.c (.v (.sl (.int .i64)))], [.c (.v (.int .i64))]⟩),
    (65, ⟨[.c (.v (.sl (.int .i64)))], [.c (.v (.sl (.int .i64)))]⟩),
    (66, ⟨[.c (.v (.sl (.int .i64))), .c (.v (.sl (.int .i64)))], [.c (.v (.sl (.int .i64))), .c (.v (.sl (.int .i64)))]⟩),
    (67, ⟨[.c (.v (.sl (.int .i64))), .c (.v (.sl (.int .i64)))], [.c (.v (.sl (.int .i64)))]⟩),
    (68, ⟨[.c (.v (.sl (.int .i64))), .c (.v (.sl (.int .i64)))], [.c (.v (.int .i64))]⟩),
    (69, ⟨[.c (.v .bool), .c (.v .bool), .c (.v (.int .i64)), .c (.v (.int .i64))], [.c (.v .bool)]⟩),
    (70, ⟨[.agg [.v .bool, .v (.sl (.int .i64))]], [.c (.v .bool)]⟩),
    (71, ⟨[.c (.v (.sl (.int .i64)))], [.c (.v (.int .i64))]⟩),
    (72, ⟨[.c (.v .bool), .c (.v (.sl (.int .i64))), .c (.v (.int .i64))], [.agg [.v .bool, .v (.sl (.int .i64)), .v (.int .i64)], .c (.v (.int .i64))]⟩),
    (74, ⟨[.c (.v .bool), .c (.v (.sl (.int .i64))), .c (.v (.sl (.int .i64))), .c (.v (.int .i64))], [.c (.v (.sl (.int .i64)))]⟩),
    (75, ⟨[.c (.v (.int .i64))], [.c (.v (.sl (.int .i64)))]⟩),
    (76, ⟨[.c (.v (.sl (.int .i64))), .c (.v (.sl (.int .i64)))], [.c (.v .bool)]⟩),
    (77, ⟨[.c (.v (.sl (.int .i64))), .c (.v (.sl (.int .i64)))], [.c (.v (.sl (.int .i64)))]⟩),
    (78, ⟨[.c (.v (.sl (.int .i64)))], [.c (.v (.sl (.int .i64)))]⟩),
    (79, ⟨[.box [.v (.sl (.int .u8)), .v (.int .i64)], .c (.v (.int .i64))], [.c (.v .str)]⟩),
    (80, ⟨[.c (.v .str), .c (.v (.int .i64))], [.c (.v .str)]⟩),
    (81, ⟨[.c (.v .bool), .c (.v (.sl (.int .i64)))], [.agg [.v .bool, .o (.int .i64) 3 true], .c (.v .bool)]⟩),
    (82, ⟨[.c (.v .str)], [.c (.v (.sl (.int .i64)))]⟩),
    (85, ⟨[.c (.v (.sl (.int .i64))), .c (.v (.sl (.int .i64)))], [.c (.v (.sl (.int .i64)))]⟩),
    (87, ⟨[.c (.v (.int .i64))], [.c (.v .bool)]⟩),
    (88, ⟨[.c (.v (.sl (.int .i64)))], [.c (.v .str)]⟩),
    (90, ⟨[.c (.v (.sl (.int .i64)))], [.c (.v .str)]⟩),
    (91, ⟨[.c (.v (.sl (.int .i64))), .c (.v (.sl (.int .i64)))], [.c (.v (.sl (.int .i64))), .c (.v (.sl (.int .i64)))]⟩),
    (92, ⟨[.c (.v (.int .i64)), .c (.v .bool), .c (.v .bool), .c (.v (.int .i64))], [.c (.v .bool)]⟩),
    (93, ⟨[.c (.v (.sl (.int .i64))), .c (.v (.sl (.int .i64)))], [.c (.v (.int .i64))]⟩),
    (94, ⟨[.c (.v (.sl (.int .i64))), .c (.v (.sl (.int .i64)))], [.c (.v (.sl (.int .i64)))]⟩),
    (95, ⟨[.c (.v (.sl (.int .i64)))], [.c (.o (.int .i64) 3 true)]⟩),
    (96, ⟨[.c (.o (.int .i64) 3 false)], [.c (.v (.sl (.int .i64)))]⟩),
    (97, ⟨[.c (.v (.sl (.int .i64)))], [.c (.o (.int .i64) 3 true)]⟩),
    (98, ⟨[.c (.v (.sl (.int .i64)))], [.c (.o (.int .i64) 3 true)]⟩),
    (99, ⟨[.c (.v (.sl (.int .i64))), .c (.v (.int .i64))], [.c (.v (.int .i64))]⟩),
    (106, ⟨[.c (.v (.int .i64))], [.c (.v .str)]⟩),
    (107, ⟨[.c (.v (.int .i64)), .c (.v (.int .i64))], [.c (.v .str)]⟩),
    (108, ⟨[.c (.v (.sl (.int .i64))), .c (.v (.sl (.int .i64)))], [.c (.v (.int .i64))]⟩),
    (109, ⟨[.c (.v (.sl (.int .i64))), .c (.v (.sl (.int .i64)))], [.c (.o (.int .i64) 3 true)]⟩),
    (88086, ⟨[.c (.v (.sl (.int .i64))), .clo 87 []], [.c (.v .bool)]⟩),
    (88100, ⟨[.c (.v (.sl (.int .i64))), .clo 87 []], [.c (.v (.int .i64))]⟩),
    (1018066, ⟨[.c (.v (.int .i64)), .c (.v (.int .i64)), .box [.v (.sl (.int .i64))], .box [.o (.int .i64) 3 true], .box [.v (.sl (.int .i64))]], []⟩)]
  cut := [(21, [(6, [(2, .box [.v .bool, .v (.sl (.int .i64)), .v (.int .i64)]), (3, .box [.v .bool, .v (.sl (.int .i64)), .v (.int .i64)]), (6, .box [.v (.sl (.int .u8)), .v (.int .i64)]), (7, .box [.v .bool, .v (.sl (.int .i64)), .v (.int .i64)]), (8, .box [.v .bool, .v (.sl (.int .i64)), .v (.int .i64)])])]),
    (29, [(3, [(0, .c (.v (.sl (.int .u8))))])]),
    (30, [(9, [(0, .box [.v (.sl (.int .u8)), .v (.int .i64)]), (2, .box [.v .bool, .v (.sl (.int .i64)), .v (.int .i64)]), (3, .box [.v .bool, .v (.sl (.int .i64)), .v (.int .i64)])])]),
    (37, [(7, [(3, .box [.v .bool, .v (.sl (.int .i64))]), (6, .box [.v .bool, .v (.sl (.int .i64))]), (7, .c (.v (.sl (.int .i64))))])]),
    (39, [(3, [(3, .c (.v (.sl (.int .i64)))), (5, .c (.v (.int .i64))), (6, .c (.v (.int .i64)))])]),
    (50, [(2, [(0, .c (.v (.int .u64))), (3, .c (.o (.int .i64) 3 true))])]),
    (51, [(4, [(0, .box [.v (.sl (.int .u8)), .v (.int .i64)]), (4, .box [.v .bool, .v (.sl (.int .i64))]), (5, .c (.v (.int .i64)))]), (7, [(0, .box [.v (.sl (.int .u8)), .v (.int .i64)]), (4, .box [.v .bool, .v (.sl (.int .i64))]), (5, .c (.v (.int .i64))), (6, .c (.v .str))]), (9, [(0, .box [.v (.sl (.int .u8)), .v (.int .i64)]), (4, .box [.v .bool, .v (.sl (.int .i64))]), (6, .c (.v .str))])]),
    (55, [(3, [(0, .c (.v (.int .i64))), (2, .box [.v .bool, .v (.sl (.int .i64))]), (3, .c (.o (.int .i64) 3 true)), (4, .c (.v (.int .i64)))]), (7, [(0, .c (.v (.int .i64))), (2, .box [.v .bool, .v (.sl (.int .i64))]), (3, .c (.o (.int .i64) 3 true)), (4, .c (.v (.int .i64))), (5, .c (.v (.int .i64)))])]),
    (56, [(3, [(1, .c (.v (.sl (.int .i64)))), (5, .c (.o (.int .i64) 3 true)), (19, .c (.v (.sl (.int .i64)))), (20, .c (.v (.int .i64))), (21, .c (.v (.int .i64)))]), (7, [(1, .c (.v (.sl (.int .i64)))), (5, .c (.o (.int .i64) 3 true)), (6, .c (.v (.int .i64))), (7, .c (.v (.int .i64))), (8, .c (.v (.int .i64))), (19, .c (.v (.sl (.int .i64)))), (20, .c (.v (.int .i64))), (21, .c (.v (.int .i64))), (26, .c (.v (.sl (.int .i64)))), (27, .c (.v (.int .i64))), (28, .c (.v (.int .i64)))])]),
    (62, [(10, [(0, .box [.v (.sl (.int .u8)), .v (.int .i64)]), (2, .box [.v .bool, .v (.sl (.int .i64))]), (3, .box [.v .bool, .o (.int .i64) 3 true])]), (12, [(0, .box [.v (.sl (.int .u8)), .v (.int .i64)]), (2, .box [.v .bool, .v (.sl (.int .i64))]), (3, .box [.v .bool, .o (.int .i64) 3 true])])]),
    (65, [(1, [(0, .c (.v (.sl (.int .i64))))])]),
    (66, [(15, [(6, .box [.v (.sl (.int .i64))]), (7, .box [.v (.sl (.int .i64))])])]),
    (67, [(4, [(5, .c (.o (.int .i64) 3 true)), (19, .c (.v (.sl (.int .i64)))), (20, .c (.v (.int .i64))), (21, .c (.v (.int .i64)))]), (9, [(5, .c (.o (.int .i64) 3 true)), (36, .c (.v (.int .i64))), (37, .c (.v (.int .i64)))])]),
    (68, [(4, [(0, .c (.v (.sl (.int .i64)))), (1, .c (.v (.sl (.int .i64)))), (5, .c (.v (.int .i64)))])]),
    (70, [(4, [(1, .box [.v .bool, .v (.sl (.int .i64))]), (3, .c (.v (.int .i64)))])]),
    (75, [(2, [(0, .c (.v (.int .i64))), (3, .c (.o (.int .i64) 3 true))]), (6, [(0, .c (.v (.int .i64))), (3, .c (.o (.int .i64) 3 true)), (4, .c (.v (.int .i64)))])]),
    (76, [(4, [(0, .c (.v (.sl (.int .i64)))), (1, .c (.v (.sl (.int .i64)))), (5, .c (.v (.int .i64)))])]),
    (77, [(3, [(5, .c (.o (.int .i64) 3 true)), (11, .c (.v (.sl (.int .i64)))), (12, .c (.v (.int .i64))), (13, .c (.v (.int .i64)))]), (8, [(5, .c (.o (.int .i64) 3 true)), (27, .c (.v (.int .i64))), (28, .c (.v (.int .i64)))]), (13, [(5, .c (.o (.int .i64) 3 true)), (27, .c (.v (.int .i64))), (28, .c (.v (.int .i64)))])]),
    (79, [(4, [(0, .box [.v (.sl (.int .u8)), .v (.int .i64)]), (1, .c (.v (.int .i64))), (5, .c (.v .str))])]),
    (80, [(2, [(0, .c (.v .str)), (1, .c (.v (.int .i64))), (5, .c (.v .str))])]),
    (82, [(2, [(0, .c (.v .str)), (3, .c (.o (.int .i64) 3 true))]), (6, [(0, .c (.v .str)), (3, .c (.o (.int .i64) 3 true)), (4, .c (.v (.int .i64)))]), (8, [(0, .c (.v .str)), (3, .c (.o (.int .i64) 3 true)), (4, .c (.v (.int .i64))), (5, .c (.v (.int .i64))), (6, .c (.v (.int .i64)))])]),
    (85, [(3, [(0, .c (.v (.sl (.int .i64)))), (1, .c (.v (.sl (.int .i64)))), (5, .c (.o (.int .i64) 3 true)), (6, .c (.v (.int .i64)))]), (7, [(0, .c (.v (.sl (.int .i64)))), (1, .c (.v (.sl (.int .i64)))), (5, .c (.o (.int .i64) 3 true)), (6, .c (.v (.int .i64))), (7, .c (.v (.int .i64))), (8, .c (.v (.int .i64)))])]),
    (90, [(5, [(0, .c (.v (.sl (.int .i64)))), (3, .c (.v .str)), (4, .c (.v (.int .i64)))])]),
    (91, [(4, [(0, .c (.v (.sl (.int .i64)))), (1, .c (.v (.sl (.int .i64)))), (6, .c (.o (.int .i64) 3 true)), (7, .c (.o (.int .i64) 3 true)), (8, .c (.v (.int .i64)))])]),
    (93, [(6, [(0, .c (.v (.sl (.int .i64)))), (1, .c (.v (.sl (.int .i64)))), (5, .c (.v (.int .i64)))])]),
    (94, [(4, [(0, .c (.v (.sl (.int .i64)))), (1, .c (.v (.sl (.int .i64)))), (5, .c (.o (.int .i64) 3 true)), (6, .c (.v (.int .i64))), (7, .c (.v (.int .i64)))])]),
    (98, [(2, [(0, .c (.v (.sl (.int .i64)))), (3, .c (.v (.int .i64)))])]),
    (107, [(2, [(1, .c (.v (.int .i64))), (5, .c (.v .str))])]),
    (108, [(3, [(0, .c (.v (.sl (.int .i64)))), (1, .c (.v (.sl (.int .i64)))), (5, .c (.v (.int .i64))), (6, .c (.v (.int .i64)))])]),
    (109, [(4, [(0, .c (.v (.sl (.int .i64)))), (1, .c (.v (.sl (.int .i64)))), (5, .c (.o (.int .i64) 3 true)), (6, .c (.v (.int .i64))), (7, .c (.v (.int .i64)))]), (11, [(0, .c (.v (.sl (.int .i64)))), (1, .c (.v (.sl (.int .i64)))), (5, .c (.o (.int .i64) 3 true)), (6, .c (.v (.int .i64))), (7, .c (.v (.int .i64))), (8, .c (.v (.int .i64)))])]),
    (88100, [(2, [(0, .c (.v (.sl (.int .i64)))), (1, .clo 87 []), (7, .c (.v (.int .i64))), (8, .c (.v (.int .i64)))])]),
    (1018066, [(8, [(3, .box [.v (.sl (.int .i64))]), (6, .box [.o (.int .i64) 3 true]), (7, .box [.v (.sl (.int .i64))]), (8, .c (.v (.int .i64))), (10, .c (.v (.int .i64))), (11, .c (.v (.int .i64)))])])]
  eqs := []
  rt := [(1018066, [18, 19, 3, 6, 7])]
  rng := [(66, [(18, 1018066)])]
  back := [(89, 105, 55)]
theorem tabs_ok : tabs.ok Tryz.prog = true := by kernel_rfl
noncomputable def extR : (f : Nat) → Option ((specOf tabs.spec f).In → Option (specOf tabs.spec f).Out) := fun f => match f with
  | 88 => some textR
  | _ => none
/-- the variable that holds strconv's powers of ten, and its cells -/
def powG : Nat := 0
def powCells : Array Value := (Lib.pow10Tab.map fun z => Value.int .u64 z).toArray
def objsR : Nat → Option (Array Value) := fun g => if g = powG then some powCells else none
noncomputable def cx : Go.Rf.Cx := tabs.cx Tryz.prog extR (fun _ => none) objsR
theorem good : Go.Rf.Good cx := Go.Rf.Tabs.good tabs_ok backs_ok
end Go.Proofs.YtennmjbdmglebaaGreatDoor.R
end

section
/-! Rf: the functions, and what each answers. -/
set_option autoImplicit false
set_option linter.unusedVariables false
namespace Go.Proofs.YtennmjbdmglebaaGreatDoor.R
open Go.Rf
/-! loop.example/jetton/laws.FnDecDiv -/
noncomputable def F8 (k : Nat) (a0 : List Int) : Option ((Bool × Unit) × (Unit × Unit)) := callF cx k 8 (a0, ())
/-! loop.example/jetton/laws.jtDec -/
noncomputable def F13 (k : Nat) (a0_0 : Bool) (a0_1 : List Int) (a0_2 : Int) (a1_0 : Bool) (a1_1 : List Int) (a1_2 : Int) : Option ((Bool × Unit) × ((Unit × Unit × Unit × Unit) × (Unit × Unit × Unit × Unit) × Unit)) := callF cx k 13 ((a0_0, a0_1, a0_2, ()), (a1_0, a1_1, a1_2, ()), ())
/-! loop.example/jetton/spec.DrawDecDiv -/
noncomputable def F21 (k : Nat) (a0 : List Int) : Option (((Bool × (List Int) × Int × Unit) × (Bool × (List Int) × Int × Unit) × Int × Int × Unit) × (Unit × Unit)) := callF cx k 21 (a0, ())
noncomputable def F21c6 (k : Nat) (x2_0 : Bool) (x2_1 : List Int) (x2_2 : Int) (x3_0 : Bool) (x3_1 : List Int) (x3_2 : Int) (x6_0 : List Int) (x6_1 : Int) (x7_0 : Bool) (x7_1 : List Int) (x7_2 : Int) (x8_0 : Bool) (x8_1 : List Int) (x8_2 : Int) : Option (((Bool × (List Int) × Int × Unit) × (Bool × (List Int) × Int × Unit) × Int × Int × Unit) × (Unit × Unit)) := cutF cx 21 6 Tryz.f21 k ((x2_0, x2_1, x2_2, ()), (x3_0, x3_1, x3_2, ()), (x6_0, x6_1, ()), (x7_0, x7_1, x7_2, ()), (x8_0, x8_1, x8_2, ()), ())
/-! loop.example/jetton/impl.DecDiv -/
noncomputable def F22 (k : Nat) (a0_0 : Bool) (a0_1 : List Int) (a0_2 : Int) (a1_0 : Bool) (a1_1 : List Int) (a1_2 : Int) (a2 : Int) (a3 : Int) : Option (((Bool × (List Int) × Int × Unit) × Int × Unit) × ((Unit × Unit × Unit × Unit) × (Unit × Unit × Unit × Unit) × Unit × Unit × Unit)) := callF cx k 22 ((a0_0, a0_1, a0_2, ()), (a1_0, a1_1, a1_2, ()), a2, a3, ())
/-! loop.example/jetton/spec.DecDiv -/
noncomputable def F23 (k : Nat) (a0_0 : Bool) (a0_1 : List Int) (a0_2 : Int) (a1_0 : Bool) (a1_1 : List Int) (a1_2 : Int) (a2 : Int) (a3 : Int) : Option (((Bool × (List Int) × Int × Unit) × Int × Unit) × ((Unit × Unit × Unit × Unit) × (Unit × Unit × Unit × Unit) × Unit × Unit × Unit)) := callF cx k 23 ((a0_0, a0_1, a0_2, ()), (a1_0, a1_1, a1_2, ()), a2, a3, ())
/-! loop.example/jetton/impl.BigTen -/
noncomputable def F24 (k : Nat) (a0 : Int) : Option (((Bool × (List Int) × Unit) × Bool × Unit) × (Unit × Unit)) := callF cx k 24 (a0, ())
/-! loop.example/jetton/impl.BigMul -/
noncomputable def F25 (k : Nat) (a0_0 : Bool) (a0_1 : List Int) (a1_0 : Bool) (a1_1 : List Int) : Option (((Bool × (List Int) × Unit) × Bool × Unit) × ((Unit × Unit × Unit) × (Unit × Unit × Unit) × Unit)) := callF cx k 25 ((a0_0, a0_1, ()), (a1_0, a1_1, ()), ())
/-! loop.example/jetton/impl.BigSub -/
noncomputable def F26 (k : Nat) (a0_0 : Bool) (a0_1 : List Int) (a1_0 : Bool) (a1_1 : List Int) : Option (((Bool × (List Int) × Unit) × Bool × Unit) × ((Unit × Unit × Unit) × (Unit × Unit × Unit) × Unit)) := callF cx k 26 ((a0_0, a0_1, ()), (a1_0, a1_1, ()), ())
/-! loop.example/jetton/impl.BigAdd -/
noncomputable def F27 (k : Nat) (a0_0 : Bool) (a0_1 : List Int) (a1_0 : Bool) (a1_1 : List Int) : Option (((Bool × (List Int) × Unit) × Bool × Unit) × ((Unit × Unit × Unit) × (Unit × Unit × Unit) × Unit)) := callF cx k 27 ((a0_0, a0_1, ()), (a1_0, a1_1, ()), ())
/-! loop.example/jetton/impl.BigCmp -/
noncomputable def F28 (k : Nat) (a0_0 : Bool) (a0_1 : List Int) (a1_0 : Bool) (a1_1 : List Int) : Option ((Int × Unit) × ((Unit × Unit × Unit) × (Unit × Unit × Unit) × Unit)) := callF cx k 28 ((a0_0, a0_1, ()), (a1_0, a1_1, ()), ())
/-! loop.example/jetton/spec.l1Open -/
noncomputable def F29 (k : Nat) (a0 : List Int) : Option ((((List Int) × Int × Unit) × Unit) × (Unit × Unit)) := callF cx k 29 (a0, ())
noncomputable def F29c3 (k : Nat) (x0 : List Int) : Option ((((List Int) × Int × Unit) × Unit) × (Unit × Unit)) := cutF cx 29 3 Tryz.f29 k (x0, ())
/-! loop.example/jetton/spec.l14AnyDec -/
noncomputable def F30 (k : Nat) (a0_0 : List Int) (a0_1 : Int) : Option (((Bool × (List Int) × Int × Unit) × Unit) × (((List Int) × Int × Unit) × Unit)) := callF cx k 30 ((a0_0, a0_1, ()), ())
noncomputable def F30c9 (k : Nat) (x0_0 : List Int) (x0_1 : Int) (x2_0 : Bool) (x2_1 : List Int) (x2_2 : Int) (x3_0 : Bool) (x3_1 : List Int) (x3_2 : Int) : Option (((Bool × (List Int) × Int × Unit) × Unit) × (((List Int) × Int × Unit) × Unit)) := cutF cx 30 9 Tryz.f30 k ((x0_0, x0_1, ()), (x2_0, x2_1, x2_2, ()), (x3_0, x3_1, x3_2, ()), ())
/-! (*loop.example/jetton/spec.l1Rd).one -/
noncomputable def F31 (k : Nat) (a0_0 : List Int) (a0_1 : Int) (a1 : List Int) : Option ((Int × Unit) × (((List Int) × Int × Unit) × Unit × Unit)) := callF cx k 31 ((a0_0, a0_1, ()), a1, ())
/-! (*loop.example/jetton/spec.l1Rd).pick -/
noncomputable def F32 (k : Nat) (a0_0 : List Int) (a0_1 : Int) (a1 : Int) : Option ((Int × Unit) × (((List Int) × Int × Unit) × Unit × Unit)) := callF cx k 32 ((a0_0, a0_1, ()), a1, ())
/-! loop.example/jetton/impl.DecOk -/
noncomputable def F33 (k : Nat) (a0_0 : Bool) (a0_1 : List Int) (a0_2 : Int) : Option ((Bool × Unit) × ((Unit × Unit × Unit × Unit) × Unit)) := callF cx k 33 ((a0_0, a0_1, a0_2, ()), ())
/-! loop.example/jetton/impl.rounds -/
noncomputable def F34 (k : Nat) (a0 : Int) (a1 : Int) : Option ((Bool × Unit) × (Unit × Unit × Unit)) := callF cx k 34 (a0, a1, ())
/-! loop.example/jetton/impl.dec -/
noncomputable def F35 (k : Nat) (a0_0 : Bool) (a0_1 : List Int) (a1 : Int) : Option (((Bool × (List Int) × Int × Unit) × Int × Unit) × ((Unit × Unit × Unit) × Unit × Unit)) := callF cx k 35 ((a0_0, a0_1, ()), a1, ())
/-! loop.example/jetton/impl.quotient -/
noncomputable def F37 (k : Nat) (a0_0 : Bool) (a0_1 : List Int) (a1 : List Int) (a2 : Int) : Option (((Bool × (List Int) × Unit) × Unit) × ((Unit × Unit × Unit) × Unit × Unit × Unit)) := callF cx k 37 ((a0_0, a0_1, ()), a1, a2, ())
noncomputable def F37c7 (k : Nat) (x3_0 : Bool) (x3_1 : List Int) (x6_0 : Bool) (x6_1 : List Int) (x7 : List Int) : Option (((Bool × (List Int) × Unit) × Unit) × ((Unit × Unit × Unit) × Unit × Unit × Unit)) := cutF cx 37 7 Tryz.f37 k ((x3_0, x3_1, ()), (x6_0, x6_1, ()), x7, ())
/-! (loop.example/jetton/impl.Big).signed -/
noncomputable def F38 (k : Nat) (a0_0 : Bool) (a0_1 : List Int) : Option (((Bool × (List Int) × Unit) × Unit) × ((Unit × Unit × Unit) × Unit)) := callF cx k 38 ((a0_0, a0_1, ()), ())
/-! loop.example/jetton/impl.ten -/
noncomputable def F39 (k : Nat) (a0 : Int) : Option (((List Int) × Unit) × (Unit × Unit)) := callF cx k 39 (a0, ())
noncomputable def F39c3 (k : Nat) (x3 : List Int) (x5 : Int) (x6 : Int) : Option (((List Int) × Unit) × (Unit × Unit)) := cutF cx 39 3 Tryz.f39 k (x3, x5, x6, ())
/-! loop.example/jetton/spec.l2Ok -/
noncomputable def F40 (k : Nat) (a0_0 : Bool) (a0_1 : List Int) (a0_2 : Int) : Option ((Bool × Unit) × ((Unit × Unit × Unit × Unit) × Unit)) := callF cx k 40 ((a0_0, a0_1, a0_2, ()), ())
/-! loop.example/jetton/spec.l1In -/
noncomputable def F41 (k : Nat) (a0 : Int) (a1 : Int) (a2 : Int) : Option ((Bool × Unit) × (Unit × Unit × Unit × Unit)) := callF cx k 41 (a0, a1, a2, ())
/-! loop.example/jetton/spec.l2Mode -/
noncomputable def F42 (k : Nat) (a0 : Int) : Option ((Bool × Unit) × (Unit × Unit)) := callF cx k 42 (a0, ())
/-! loop.example/jetton/laws.jtBig -/
noncomputable def F44 (k : Nat) (a0_0 : Bool) (a0_1 : List Int) (a1_0 : Bool) (a1_1 : List Int) : Option ((Bool × Unit) × ((Unit × Unit × Unit) × (Unit × Unit × Unit) × Unit)) := callF cx k 44 ((a0_0, a0_1, ()), (a1_0, a1_1, ()), ())
/-! loop.example/jetton/impl.decs -/
noncomputable def F45 (k : Nat) (a0_0 : Bool) (a0_1 : List Int) (a0_2 : Int) (a1_0 : Bool) (a1_1 : List Int) (a1_2 : Int) : Option ((Bool × Unit) × ((Unit × Unit × Unit × Unit) × (Unit × Unit × Unit × Unit) × Unit)) := callF cx k 45 ((a0_0, a0_1, a0_2, ()), (a1_0, a1_1, a1_2, ()), ())
/-! (loop.example/jetton/impl.signed).add -/
noncomputable def F47 (k : Nat) (a0_0 : Bool) (a0_1 : List Int) (a1_0 : Bool) (a1_1 : List Int) : Option (((Bool × (List Int) × Unit) × Unit) × ((Unit × Unit × Unit) × (Unit × Unit × Unit) × Unit)) := callF cx k 47 ((a0_0, a0_1, ()), (a1_0, a1_1, ()), ())
/-! (loop.example/jetton/impl.signed).minus -/
noncomputable def F48 (k : Nat) (a0_0 : Bool) (a0_1 : List Int) : Option (((Bool × (List Int) × Unit) × Unit) × ((Unit × Unit × Unit) × Unit)) := callF cx k 48 ((a0_0, a0_1, ()), ())
/-! loop.example/jetton/impl.big -/
noncomputable def F49 (k : Nat) (a0 : Bool) (a1 : List Int) : Option (((Bool × (List Int) × Unit) × Bool × Unit) × (Unit × Unit × Unit)) := callF cx k 49 (a0, a1, ())
/-! loop.example/jetton/impl.limbsOf -/
noncomputable def F50 (k : Nat) (a0 : Int) : Option (((List Int) × Unit) × (Unit × Unit)) := callF cx k 50 (a0, ())
noncomputable def F50c2 (k : Nat) (x0 : Int) (x3 : List Int) : Option (((List Int) × Unit) × (Unit × Unit)) := cutF cx 50 2 Tryz.f50 k (x0, x3, ())
/-! loop.example/jetton/spec.l14Big -/
noncomputable def F51 (k : Nat) (a0_0 : List Int) (a0_1 : Int) (a1 : Int) : Option (((Bool × (List Int) × Unit) × Unit) × (((List Int) × Int × Unit) × Unit × Unit)) := callF cx k 51 ((a0_0, a0_1, ()), a1, ())
noncomputable def F51c4 (k : Nat) (x0_0 : List Int) (x0_1 : Int) (x4_0 : Bool) (x4_1 : List Int) (x5 : Int) : Option (((Bool × (List Int) × Unit) × Unit) × (((List Int) × Int × Unit) × Unit × Unit)) := cutF cx 51 4 Tryz.f51 k ((x0_0, x0_1, ()), (x4_0, x4_1, ()), x5, ())
noncomputable def F51c7 (k : Nat) (x0_0 : List Int) (x0_1 : Int) (x4_0 : Bool) (x4_1 : List Int) (x5 : Int) (x6 : ByteArray) : Option (((Bool × (List Int) × Unit) × Unit) × (((List Int) × Int × Unit) × Unit × Unit)) := cutF cx 51 7 Tryz.f51 k ((x0_0, x0_1, ()), (x4_0, x4_1, ()), x5, x6, ())
noncomputable def F51c9 (k : Nat) (x0_0 : List Int) (x0_1 : Int) (x4_0 : Bool) (x4_1 : List Int) (x6 : ByteArray) : Option (((Bool × (List Int) × Unit) × Unit) × (((List Int) × Int × Unit) × Unit × Unit)) := cutF cx 51 9 Tryz.f51 k ((x0_0, x0_1, ()), (x4_0, x4_1, ()), x6, ())
/-! (loop.example/jetton/impl.signed).mul -/
noncomputable def F53 (k : Nat) (a0_0 : Bool) (a0_1 : List Int) (a1_0 : Bool) (a1_1 : List Int) : Option (((Bool × (List Int) × Unit) × Unit) × ((Unit × Unit × Unit) × (Unit × Unit × Unit) × Unit)) := callF cx k 53 ((a0_0, a0_1, ()), (a1_0, a1_1, ()), ())
/-! loop.example/jetton/spec.BigOf -/
noncomputable def F55 (k : Nat) (a0 : Int) : Option (((Bool × (List Int) × Unit) × Unit) × (Unit × Unit)) := callF cx k 55 (a0, ())
noncomputable def F55c3 (k : Nat) (x0 : Int) (x2_0 : Bool) (x2_1 : List Int) (x3 : List Int) (x4 : Int) : Option (((Bool × (List Int) × Unit) × Unit) × (Unit × Unit)) := cutF cx 55 3 Tryz.f55 k (x0, (x2_0, x2_1, ()), x3, x4, ())
noncomputable def F55c7 (k : Nat) (x0 : Int) (x2_0 : Bool) (x2_1 : List Int) (x3 : List Int) (x4 : Int) (x5 : Int) : Option (((Bool × (List Int) × Unit) × Unit) × (Unit × Unit)) := cutF cx 55 7 Tryz.f55 k (x0, (x2_0, x2_1, ()), x3, x4, x5, ())
/-! (loop.example/jetton/impl.limbs).mul -/
noncomputable def F56 (k : Nat) (a0 : List Int) (a1 : List Int) : Option (((List Int) × Unit) × (Unit × Unit × Unit)) := callF cx k 56 (a0, a1, ())
noncomputable def F56c3 (k : Nat) (x1 : List Int) (x5 : List Int) (x19 : List Int) (x20 : Int) (x21 : Int) : Option (((List Int) × Unit) × (Unit × Unit × Unit)) := cutF cx 56 3 Tryz.f56 k (x1, x5, x19, x20, x21, ())
noncomputable def F56c7 (k : Nat) (x1 : List Int) (x5 : List Int) (x6 : Int) (x7 : Int) (x8 : Int) (x19 : List Int) (x20 : Int) (x21 : Int) (x26 : List Int) (x27 : Int) (x28 : Int) : Option (((List Int) × Unit) × (Unit × Unit × Unit)) := cutF cx 56 7 Tryz.f56 k (x1, x5, x6, x7, x8, x19, x20, x21, x26, x27, x28, ())
/-! loop.example/jetton/spec.l2Quo -/
noncomputable def F57 (k : Nat) (a0_0 : Bool) (a0_1 : List Int) (a0_2 : Int) (a1_0 : Bool) (a1_1 : List Int) (a1_2 : Int) (a2 : Int) (a3 : Int) : Option (((Bool × (List Int) × Int × Unit) × Int × Unit) × ((Unit × Unit × Unit × Unit) × (Unit × Unit × Unit × Unit) × Unit × Unit × Unit)) := callF cx k 57 ((a0_0, a0_1, a0_2, ()), (a1_0, a1_1, a1_2, ()), a2, a3, ())
/-! loop.example/jetton/impl.in -/
noncomputable def F58 (k : Nat) (a0 : Int) (a1 : Int) (a2 : Int) : Option ((Bool × Unit) × (Unit × Unit × Unit × Unit)) := callF cx k 58 (a0, a1, a2, ())
/-! loop.example/jetton/impl.bigs -/
noncomputable def F59 (k : Nat) (a0_0 : Bool) (a0_1 : List Int) (a1_0 : Bool) (a1_1 : List Int) : Option ((Bool × Unit) × ((Unit × Unit × Unit) × (Unit × Unit × Unit) × Unit)) := callF cx k 59 ((a0_0, a0_1, ()), (a1_0, a1_1, ()), ())
/-! (loop.example/jetton/impl.signed).sign -/
noncomputable def F60 (k : Nat) (a0_0 : Bool) (a0_1 : List Int) : Option ((Int × Unit) × ((Unit × Unit × Unit) × Unit)) := callF cx k 60 ((a0_0, a0_1, ()), ())
/-! loop.example/jetton/spec.l14Dec -/
noncomputable def F61 (k : Nat) (a0_0 : List Int) (a0_1 : Int) : Option (((Bool × (List Int) × Int × Unit) × Unit) × (((List Int) × Int × Unit) × Unit)) := callF cx k 61 ((a0_0, a0_1, ()), ())
/-! loop.example/jetton/spec.l14AnyBig -/
noncomputable def F62 (k : Nat) (a0_0 : List Int) (a0_1 : Int) : Option (((Bool × (List Int) × Unit) × Unit) × (((List Int) × Int × Unit) × Unit)) := callF cx k 62 ((a0_0, a0_1, ()), ())
noncomputable def F62c12 (k : Nat) (x0_0 : List Int) (x0_1 : Int) (x2_0 : Bool) (x2_1 : List Int) (x3_0 : Bool) (x3_1 : List Int) : Option (((Bool × (List Int) × Unit) × Unit) × (((List Int) × Int × Unit) × Unit)) := cutF cx 62 12 Tryz.f62 k ((x0_0, x0_1, ()), (x2_0, x2_1, ()), (x3_0, x3_1, ()), ())
noncomputable def F62c10 (k : Nat) (x0_0 : List Int) (x0_1 : Int) (x2_0 : Bool) (x2_1 : List Int) (x3_0 : Bool) (x3_1 : List Int) : Option (((Bool × (List Int) × Unit) × Unit) × (((List Int) × Int × Unit) × Unit)) := cutF cx 62 10 Tryz.f62 k ((x0_0, x0_1, ()), (x2_0, x2_1, ()), (x3_0, x3_1, ()), ())
/-! loop.example/jetton/impl.BigOk -/
noncomputable def F63 (k : Nat) (a0_0 : Bool) (a0_1 : List Int) : Option ((Bool × Unit) × ((Unit × Unit × Unit) × Unit)) := callF cx k 63 ((a0_0, a0_1, ()), ())
/-! (loop.example/jetton/impl.limbs).digits -/
noncomputable def F64 (k : Nat) (a0 : List Int) : Option ((Int × Unit) × (Unit × Unit)) := callF cx k 64 (a0, ())
/-! (loop.example/jetton/impl.limbs).trim -/
noncomputable def F65 (k : Nat) (a0 : List Int) : Option (((List Int) × Unit) × (Unit × Unit)) := callF cx k 65 (a0, ())
noncomputable def F65c1 (k : Nat) (x0 : List Int) : Option (((List Int) × Unit) × (Unit × Unit)) := cutF cx 65 1 Tryz.f65 k (x0, ())
/-! (loop.example/jetton/impl.limbs).div -/
noncomputable def F66 (k : Nat) (a0 : List Int) (a1 : List Int) : Option (((List Int) × (List Int) × Unit) × (Unit × Unit × Unit)) := callF cx k 66 (a0, a1, ())
noncomputable def F66c15 (k : Nat) (x6_0 : List Int) (x7_0 : List Int) : Option (((List Int) × (List Int) × Unit) × (Unit × Unit × Unit)) := cutF cx 66 15 Tryz.f66 k ((x6_0, ()), (x7_0, ()), ())
/-! (loop.example/jetton/impl.limbs).add -/
noncomputable def F67 (k : Nat) (a0 : List Int) (a1 : List Int) : Option (((List Int) × Unit) × (Unit × Unit × Unit)) := callF cx k 67 (a0, a1, ())
noncomputable def F67c4 (k : Nat) (x5 : List Int) (x19 : List Int) (x20 : Int) (x21 : Int) : Option (((List Int) × Unit) × (Unit × Unit × Unit)) := cutF cx 67 4 Tryz.f67 k (x5, x19, x20, x21, ())
noncomputable def F67c9 (k : Nat) (x5 : List Int) (x36 : Int) (x37 : Int) : Option (((List Int) × Unit) × (Unit × Unit × Unit)) := cutF cx 67 9 Tryz.f67 k (x5, x36, x37, ())
/-! (loop.example/jetton/impl.limbs).cmp -/
noncomputable def F68 (k : Nat) (a0 : List Int) (a1 : List Int) : Option ((Int × Unit) × (Unit × Unit × Unit)) := callF cx k 68 (a0, a1, ())
noncomputable def F68c4 (k : Nat) (x0 : List Int) (x1 : List Int) (x5 : Int) : Option ((Int × Unit) × (Unit × Unit × Unit)) := cutF cx 68 4 Tryz.f68 k (x0, x1, x5, ())
/-! loop.example/jetton/impl.away -/
noncomputable def F69 (k : Nat) (a0 : Bool) (a1 : Bool) (a2 : Int) (a3 : Int) : Option ((Bool × Unit) × (Unit × Unit × Unit × Unit × Unit)) := callF cx k 69 (a0, a1, a2, a3, ())
/-! loop.example/jetton/spec.l1Ok -/
noncomputable def F70 (k : Nat) (a0_0 : Bool) (a0_1 : List Int) : Option ((Bool × Unit) × ((Unit × Unit × Unit) × Unit)) := callF cx k 70 ((a0_0, a0_1, ()), ())
noncomputable def F70c4 (k : Nat) (x1_0 : Bool) (x1_1 : List Int) (x3 : Int) : Option ((Bool × Unit) × ((Unit × Unit × Unit) × Unit)) := cutF cx 70 4 Tryz.f70 k ((x1_0, x1_1, ()), x3, ())
/-! loop.example/jetton/spec.l1Long -/
noncomputable def F71 (k : Nat) (a0 : List Int) : Option ((Int × Unit) × (Unit × Unit)) := callF cx k 71 (a0, ())
/-! loop.example/jetton/spec.l2Make -/
noncomputable def F72 (k : Nat) (a0 : Bool) (a1 : List Int) (a2 : Int) : Option (((Bool × (List Int) × Int × Unit) × Int × Unit) × (Unit × Unit × Unit × Unit)) := callF cx k 72 (a0, a1, a2, ())
/-! loop.example/jetton/spec.l2Div -/
noncomputable def F74 (k : Nat) (a0 : Bool) (a1 : List Int) (a2 : List Int) (a3 : Int) : Option (((List Int) × Unit) × (Unit × Unit × Unit × Unit × Unit)) := callF cx k 74 (a0, a1, a2, a3, ())
/-! loop.example/jetton/spec.l1TenAbs -/
noncomputable def F75 (k : Nat) (a0 : Int) : Option (((List Int) × Unit) × (Unit × Unit)) := callF cx k 75 (a0, ())
noncomputable def F75c2 (k : Nat) (x0 : Int) (x3 : List Int) : Option (((List Int) × Unit) × (Unit × Unit)) := cutF cx 75 2 Tryz.f75 k (x0, x3, ())
noncomputable def F75c6 (k : Nat) (x0 : Int) (x3 : List Int) (x4 : Int) : Option (((List Int) × Unit) × (Unit × Unit)) := cutF cx 75 6 Tryz.f75 k (x0, x3, x4, ())
/-! loop.example/jetton/laws.jtInts -/
noncomputable def F76 (k : Nat) (a0 : List Int) (a1 : List Int) : Option ((Bool × Unit) × (Unit × Unit × Unit)) := callF cx k 76 (a0, a1, ())
noncomputable def F76c4 (k : Nat) (x0 : List Int) (x1 : List Int) (x5 : Int) : Option ((Bool × Unit) × (Unit × Unit × Unit)) := cutF cx 76 4 Tryz.f76 k (x0, x1, x5, ())
/-! (loop.example/jetton/impl.limbs).sub -/
noncomputable def F77 (k : Nat) (a0 : List Int) (a1 : List Int) : Option (((List Int) × Unit) × (Unit × Unit × Unit)) := callF cx k 77 (a0, a1, ())
noncomputable def F77c3 (k : Nat) (x5 : List Int) (x11 : List Int) (x12 : Int) (x13 : Int) : Option (((List Int) × Unit) × (Unit × Unit × Unit)) := cutF cx 77 3 Tryz.f77 k (x5, x11, x12, x13, ())
noncomputable def F77c8 (k : Nat) (x5 : List Int) (x27 : Int) (x28 : Int) : Option (((List Int) × Unit) × (Unit × Unit × Unit)) := cutF cx 77 8 Tryz.f77 k (x5, x27, x28, ())
noncomputable def F77c13 (k : Nat) (x5 : List Int) (x27 : Int) (x28 : Int) : Option (((List Int) × Unit) × (Unit × Unit × Unit)) := cutF cx 77 13 Tryz.f77 k (x5, x27, x28, ())
/-! loop.example/jetton/impl.clone[int] -/
noncomputable def F78 (k : Nat) (a0 : List Int) : Option (((List Int) × Unit) × (Unit × Unit)) := callF cx k 78 (a0, ())
/-! loop.example/jetton/spec.l14Figs -/
noncomputable def F79 (k : Nat) (a0_0 : List Int) (a0_1 : Int) (a1 : Int) : Option ((ByteArray × Unit) × (((List Int) × Int × Unit) × Unit × Unit)) := callF cx k 79 ((a0_0, a0_1, ()), a1, ())
noncomputable def F79c4 (k : Nat) (x0_0 : List Int) (x0_1 : Int) (x1 : Int) (x5 : ByteArray) : Option ((ByteArray × Unit) × (((List Int) × Int × Unit) × Unit × Unit)) := cutF cx 79 4 Tryz.f79 k ((x0_0, x0_1, ()), x1, x5, ())
/-! loop.example/jetton/spec.l1Many -/
noncomputable def F80 (k : Nat) (a0 : ByteArray) (a1 : Int) : Option ((ByteArray × Unit) × (Unit × Unit × Unit)) := callF cx k 80 (a0, a1, ())
noncomputable def F80c2 (k : Nat) (x0 : ByteArray) (x1 : Int) (x5 : ByteArray) : Option ((ByteArray × Unit) × (Unit × Unit × Unit)) := cutF cx 80 2 Tryz.f80 k (x0, x1, x5, ())
/-! loop.example/jetton/spec.l1Big -/
noncomputable def F81 (k : Nat) (a0 : Bool) (a1 : List Int) : Option (((Bool × (List Int) × Unit) × Bool × Unit) × (Unit × Unit × Unit)) := callF cx k 81 (a0, a1, ())
/-! loop.example/jetton/spec.l1FromFigures -/
noncomputable def F82 (k : Nat) (a0 : ByteArray) : Option (((List Int) × Unit) × (Unit × Unit)) := callF cx k 82 (a0, ())
noncomputable def F82c2 (k : Nat) (x0 : ByteArray) (x3 : List Int) : Option (((List Int) × Unit) × (Unit × Unit)) := cutF cx 82 2 Tryz.f82 k (x0, x3, ())
noncomputable def F82c6 (k : Nat) (x0 : ByteArray) (x3 : List Int) (x4 : Int) : Option (((List Int) × Unit) × (Unit × Unit)) := cutF cx 82 6 Tryz.f82 k (x0, x3, x4, ())
noncomputable def F82c8 (k : Nat) (x0 : ByteArray) (x3 : List Int) (x4 : Int) (x5 : Int) (x6 : Int) : Option (((List Int) × Unit) × (Unit × Unit)) := cutF cx 82 8 Tryz.f82 k (x0, x3, x4, x5, x6, ())
/-! loop.example/jetton/spec.l1MulAbs -/
noncomputable def F85 (k : Nat) (a0 : List Int) (a1 : List Int) : Option (((List Int) × Unit) × (Unit × Unit × Unit)) := callF cx k 85 (a0, a1, ())
noncomputable def F85c3 (k : Nat) (x0 : List Int) (x1 : List Int) (x5 : List Int) (x6 : Int) : Option (((List Int) × Unit) × (Unit × Unit × Unit)) := cutF cx 85 3 Tryz.f85 k (x0, x1, x5, x6, ())
noncomputable def F85c7 (k : Nat) (x0 : List Int) (x1 : List Int) (x5 : List Int) (x6 : Int) (x7 : Int) (x8 : Int) : Option (((List Int) × Unit) × (Unit × Unit × Unit)) := cutF cx 85 7 Tryz.f85 k (x0, x1, x5, x6, x7, x8, ())
/-! loop.example/jetton/impl.BigOk$1 -/
noncomputable def F87 (k : Nat) (a0 : Int) : Option ((Bool × Unit) × (Unit × Unit)) := callF cx k 87 (a0, ())
/-! (loop.example/jetton/impl.limbs).text -/
noncomputable def F88 (k : Nat) (a0 : List Int) : Option ((ByteArray × Unit) × (Unit × Unit)) := callF cx k 88 (a0, ())
/-! loop.example/jetton/spec.l1Figures -/
noncomputable def F90 (k : Nat) (a0 : List Int) : Option ((ByteArray × Unit) × (Unit × Unit)) := callF cx k 90 (a0, ())
noncomputable def F90c5 (k : Nat) (x0 : List Int) (x3 : ByteArray) (x4 : Int) : Option ((ByteArray × Unit) × (Unit × Unit)) := cutF cx 90 5 Tryz.f90 k (x0, x3, x4, ())
/-! loop.example/jetton/spec.l1DivAbs -/
noncomputable def F91 (k : Nat) (a0 : List Int) (a1 : List Int) : Option (((List Int) × (List Int) × Unit) × (Unit × Unit × Unit)) := callF cx k 91 (a0, a1, ())
noncomputable def F91c4 (k : Nat) (x0 : List Int) (x1 : List Int) (x6 : List Int) (x7 : List Int) (x8 : Int) : Option (((List Int) × (List Int) × Unit) × (Unit × Unit × Unit)) := cutF cx 91 4 Tryz.f91 k (x0, x1, x6, x7, x8, ())
/-! loop.example/jetton/spec.l2More -/
noncomputable def F92 (k : Nat) (a0 : Int) (a1 : Bool) (a2 : Bool) (a3 : Int) : Option ((Bool × Unit) × (Unit × Unit × Unit × Unit × Unit)) := callF cx k 92 (a0, a1, a2, a3, ())
/-! loop.example/jetton/spec.l1CmpAbs -/
noncomputable def F93 (k : Nat) (a0 : List Int) (a1 : List Int) : Option ((Int × Unit) × (Unit × Unit × Unit)) := callF cx k 93 (a0, a1, ())
noncomputable def F93c6 (k : Nat) (x0 : List Int) (x1 : List Int) (x5 : Int) : Option ((Int × Unit) × (Unit × Unit × Unit)) := cutF cx 93 6 Tryz.f93 k (x0, x1, x5, ())
/-! loop.example/jetton/spec.l1AddAbs -/
noncomputable def F94 (k : Nat) (a0 : List Int) (a1 : List Int) : Option (((List Int) × Unit) × (Unit × Unit × Unit)) := callF cx k 94 (a0, a1, ())
noncomputable def F94c4 (k : Nat) (x0 : List Int) (x1 : List Int) (x5 : List Int) (x6 : Int) (x7 : Int) : Option (((List Int) × Unit) × (Unit × Unit × Unit)) := cutF cx 94 4 Tryz.f94 k (x0, x1, x5, x6, x7, ())
/-! slices.Clone[loop.example/jetton/impl.limbs,int] -/
noncomputable def F95 (k : Nat) (a0 : List Int) : Option (((List Int) × Unit) × (Unit × Unit)) := callF cx k 95 (a0, ())
/-! slices.Clip[[]int,int] -/
noncomputable def F96 (k : Nat) (a0 : List Int) : Option (((List Int) × Unit) × (Unit × Unit)) := callF cx k 96 (a0, ())
/-! slices.Clone[[]int,int] -/
noncomputable def F97 (k : Nat) (a0 : List Int) : Option (((List Int) × Unit) × (Unit × Unit)) := callF cx k 97 (a0, ())
/-! loop.example/jetton/spec.l1Trim -/
noncomputable def F98 (k : Nat) (a0 : List Int) : Option (((List Int) × Unit) × (Unit × Unit)) := callF cx k 98 (a0, ())
noncomputable def F98c2 (k : Nat) (x0 : List Int) (x3 : Int) : Option (((List Int) × Unit) × (Unit × Unit)) := cutF cx 98 2 Tryz.f98 k (x0, x3, ())
/-! loop.example/jetton/spec.l1Limb -/
noncomputable def F99 (k : Nat) (a0 : List Int) (a1 : Int) : Option ((Int × Unit) × (Unit × Unit × Unit)) := callF cx k 99 (a0, a1, ())
/-! loop.example/jetton/spec.l1Dec -/
noncomputable def F106 (k : Nat) (a0 : Int) : Option ((ByteArray × Unit) × (Unit × Unit)) := callF cx k 106 (a0, ())
/-! loop.example/jetton/spec.l1Wide -/
noncomputable def F107 (k : Nat) (a0 : Int) (a1 : Int) : Option ((ByteArray × Unit) × (Unit × Unit × Unit)) := callF cx k 107 (a0, a1, ())
noncomputable def F107c2 (k : Nat) (x1 : Int) (x5 : ByteArray) : Option ((ByteArray × Unit) × (Unit × Unit × Unit)) := cutF cx 107 2 Tryz.f107 k (x1, x5, ())
/-! loop.example/jetton/spec.l1Fits -/
noncomputable def F108 (k : Nat) (a0 : List Int) (a1 : List Int) : Option ((Int × Unit) × (Unit × Unit × Unit)) := callF cx k 108 (a0, a1, ())
noncomputable def F108c3 (k : Nat) (x0 : List Int) (x1 : List Int) (x5 : Int) (x6 : Int) : Option ((Int × Unit) × (Unit × Unit × Unit)) := cutF cx 108 3 Tryz.f108 k (x0, x1, x5, x6, ())
/-! loop.example/jetton/spec.l1SubAbs -/
noncomputable def F109 (k : Nat) (a0 : List Int) (a1 : List Int) : Option (((List Int) × Unit) × (Unit × Unit × Unit)) := callF cx k 109 (a0, a1, ())
noncomputable def F109c4 (k : Nat) (x0 : List Int) (x1 : List Int) (x5 : List Int) (x6 : Int) (x7 : Int) : Option (((List Int) × Unit) × (Unit × Unit × Unit)) := cutF cx 109 4 Tryz.f109 k (x0, x1, x5, x6, x7, ())
noncomputable def F109c11 (k : Nat) (x0 : List Int) (x1 : List Int) (x5 : List Int) (x6 : Int) (x7 : Int) (x8 : Int) : Option (((List Int) × Unit) × (Unit × Unit × Unit)) := cutF cx 109 11 Tryz.f109 k (x0, x1, x5, x6, x7, x8, ())
/-! slices.ContainsFunc[[]int,int] -/
noncomputable def F88086 (k : Nat) (a0 : List Int) : Option ((Bool × Unit) × (Unit × Unit × Unit)) := callF cx k 88086 (a0, (()), ())
/-! slices.IndexFunc[[]int,int] -/
noncomputable def F88100 (k : Nat) (a0 : List Int) : Option ((Int × Unit) × (Unit × Unit × Unit)) := callF cx k 88100 (a0, (()), ())
noncomputable def F88100c2 (k : Nat) (x0 : List Int) (x7 : Int) (x8 : Int) : Option ((Int × Unit) × (Unit × Unit × Unit)) := cutF cx 88100 2 Tryz.f100 k (x0, (()), x7, x8, ())
/-! (loop.example/jetton/impl.limbs).div -/
noncomputable def F1018066 (k : Nat) (a0 : Int) (a1 : Int) (a2_0 : List Int) (a3_0 : List Int) (a4_0 : List Int) : Option ((Unit) × (Unit × Unit × ((List Int) × Unit) × ((List Int) × Unit) × ((List Int) × Unit) × Unit)) := roundF cx 1018066 Tryz.f66 k (a0, a1, (a2_0, ()), (a3_0, ()), (a4_0, ()), ())
noncomputable def F1018066c8 (k : Nat) (x3_0 : List Int) (x6_0 : List Int) (x7_0 : List Int) (x8 : Int) (x10 : Int) (x11 : Int) : Option ((Unit) × (Unit × Unit × ((List Int) × Unit) × ((List Int) × Unit) × ((List Int) × Unit) × Unit)) := cutF cx 1018066 8 Tryz.f66 k ((x3_0, ()), (x6_0, ()), (x7_0, ()), x8, x10, x11, ())
theorem F8_eq (k : Nat) (a0 : List Int) : F8 (k + 2) a0 =
    if (decide ((a0.length : Int) > (1048576 : Int))) = true then some ((true, ()), ((), ())) else (F21 k a0).bind fun r1 => (F22 k r1.1.1.1 r1.1.1.2.1 r1.1.1.2.2.1 r1.1.2.1.1 r1.1.2.1.2.1 r1.1.2.1.2.2.1 r1.1.2.2.1 r1.1.2.2.2.1).bind fun r2 => (F23 k r1.1.1.1 r1.1.1.2.1 r1.1.1.2.2.1 r1.1.2.1.1 r1.1.2.1.2.1 r1.1.2.1.2.2.1 r1.1.2.2.1 r1.1.2.2.2.1).bind fun r3 => if (r2.1.2.1 != r3.1.2.1) = true then if (r2.1.2.1 == r3.1.2.1) = true then (F13 k r2.1.1.1 r2.1.1.2.1 r2.1.1.2.2.1 r3.1.1.1 r3.1.1.2.1 r3.1.1.2.2.1).bind fun r4 => some ((r4.1.1, ()), ((), ())) else some ((false, ()), ((), ())) else (F13 k r2.1.1.1 r2.1.1.2.1 r2.1.1.2.2.1 r3.1.1.1 r3.1.1.2.1 r3.1.1.2.2.1).bind fun r5 => if (!r5.1.1) = true then if (r2.1.2.1 == r3.1.2.1) = true then (F13 k r2.1.1.1 r2.1.1.2.1 r2.1.1.2.2.1 r3.1.1.1 r3.1.1.2.1 r3.1.1.2.2.1).bind fun r6 => some ((r6.1.1, ()), ((), ())) else some ((false, ()), ((), ())) else if (r2.1.2.1 != (0 : Int)) = true then if (r2.1.2.1 == r3.1.2.1) = true then (F13 k r2.1.1.1 r2.1.1.2.1 r2.1.1.2.2.1 r3.1.1.1 r3.1.1.2.1 r3.1.1.2.2.1).bind fun r7 => some ((r7.1.1, ()), ((), ())) else some ((false, ()), ((), ())) else (F24 k (IntKind.i64.wrap (r1.1.2.2.1 + r1.1.2.1.2.2.1))).bind fun r8 => (F24 k r1.1.1.2.2.1).bind fun r9 => (F25 k r1.1.1.1 r1.1.1.2.1 r8.1.1.1 r8.1.1.2.1).bind fun r10 => (F25 k r2.1.1.1 r2.1.1.2.1 r1.1.2.1.1 r1.1.2.1.2.1).bind fun r11 => (F25 k r11.1.1.1 r11.1.1.2.1 r9.1.1.1 r9.1.1.2.1).bind fun r12 => (F26 k r10.1.1.1 r10.1.1.2.1 r12.1.1.1 r12.1.1.2.1).bind fun r13 => (F25 k r1.1.2.1.1 r1.1.2.1.2.1 r9.1.1.1 r9.1.1.2.1).bind fun r14 => if (!r10.1.2.1) = true then some ((false, ()), ((), ())) else if (!r11.1.2.1) = true then some ((false, ()), ((), ())) else if (!r12.1.2.1) = true then some ((false, ()), ((), ())) else if (!r13.1.2.1) = true then some ((false, ()), ((), ())) else if (!r14.1.2.1) = true then some ((false, ()), ((), ())) else (F27 k false r13.1.1.2.1 false r13.1.1.2.1).bind fun r15 => if (decide (r1.1.2.2.2.1 ≥ (5 : Int))) = true then (F28 k r15.1.1.1 r15.1.1.2.1 false r14.1.1.2.1).bind fun r16 => if (r16.1.1 == (1 : Int)) = true then some ((false, ()), ((), ())) else (F28 k false r13.1.1.2.1 false r14.1.1.2.1).bind fun r17 => if (r17.1.1 == (-1 : Int)) = true then some (((r2.1.1.2.2.1 == r1.1.2.2.1), ()), ((), ())) else some ((false, ()), ((), ())) else (F28 k false r13.1.1.2.1 false r14.1.1.2.1).bind fun r18 => if (r18.1.1 == (-1 : Int)) = true then some (((r2.1.1.2.2.1 == r1.1.2.2.1), ()), ((), ())) else some ((false, ()), ((), ())) := by kernel_rfl
theorem F13_eq (k : Nat) (a0_0 : Bool) (a0_1 : List Int) (a0_2 : Int) (a1_0 : Bool) (a1_1 : List Int) (a1_2 : Int) : F13 (k + 2) a0_0 a0_1 a0_2 a1_0 a1_1 a1_2 =
    if (a0_2 == a1_2) = true then (F44 k a0_0 a0_1 a1_0 a1_1).bind fun r1 => some ((r1.1.1, ()), (((), (), (), ()), ((), (), (), ()), ())) else some ((false, ()), (((), (), (), ()), ((), (), (), ()), ())) := by kernel_rfl
theorem F21_eq (k : Nat) (a0 : List Int) : F21 (k + 2) a0 =
    (F29 k a0).bind fun r1 => (F30 k r1.1.1.1 r1.1.1.2.1).bind fun r2 => (F31 k r2.2.1.1 r2.2.1.2.1 [(0 : Int), (1 : Int), (2 : Int), (3 : Int), (4 : Int), (7 : Int), (8 : Int), (9 : Int), (10 : Int), (100 : Int), (-2 : Int), (-3 : Int), (-8 : Int), (1000000 : Int)]).bind fun r3 => (F55 k r3.1.1).bind fun r4 => (F32 k r3.2.1.1 r3.2.1.2.1 (4 : Int)).bind fun r5 => (F32 k r5.2.1.1 r5.2.1.2.1 (3 : Int)).bind fun r6 => if (r6.1.1 == (0 : Int)) = true then (F30 k r6.2.1.1 r6.2.1.2.1).bind fun r7 => F21c6 k false ([] : List Int) (0 : Int) false ([] : List Int) (0 : Int) r7.2.1.1 r7.2.1.2.1 r2.1.1.1 r2.1.1.2.1 r2.1.1.2.2.1 r7.1.1.1 r7.1.1.2.1 r7.1.1.2.2.1 else F21c6 k false ([] : List Int) (0 : Int) false ([] : List Int) (0 : Int) r6.2.1.1 r6.2.1.2.1 r2.1.1.1 r2.1.1.2.1 r2.1.1.2.2.1 r4.1.1.1 r4.1.1.2.1 r5.1.1 := by kernel_rfl
theorem F21c6_eq (k : Nat) (x2_0 : Bool) (x2_1 : List Int) (x2_2 : Int) (x3_0 : Bool) (x3_1 : List Int) (x3_2 : Int) (x6_0 : List Int) (x6_1 : Int) (x7_0 : Bool) (x7_1 : List Int) (x7_2 : Int) (x8_0 : Bool) (x8_1 : List Int) (x8_2 : Int) : F21c6 (k + 1) x2_0 x2_1 x2_2 x3_0 x3_1 x3_2 x6_0 x6_1 x7_0 x7_1 x7_2 x8_0 x8_1 x8_2 =
    (F32 k x6_0 x6_1 (15 : Int)).bind fun r8 => (F31 k r8.2.1.1 r8.2.1.2.1 [(0 : Int), (1 : Int), (2 : Int), (6 : Int), (12 : Int), (IntKind.i64.wrap (r8.1.1 - (1 : Int)))]).bind fun r9 => (F32 k r9.2.1.1 r9.2.1.2.1 (9 : Int)).bind fun r10 => some (((x7_0, x7_1, x7_2, ()), (x8_0, x8_1, x8_2, ()), r9.1.1, r10.1.1, ()), ((), ())) := by kernel_rfl
theorem F22_eq (k : Nat) (a0_0 : Bool) (a0_1 : List Int) (a0_2 : Int) (a1_0 : Bool) (a1_1 : List Int) (a1_2 : Int) (a2 : Int) (a3 : Int) : F22 (k + 2) a0_0 a0_1 a0_2 a1_0 a1_1 a1_2 a2 a3 =
    (F45 k a0_0 a0_1 a0_2 a1_0 a1_1 a1_2).bind fun r1 => if (!r1.1.1) = true then some (((false, ([] : List Int), (0 : Int), ()), (1 : Int), ()), (((), (), (), ()), ((), (), (), ()), (), (), ())) else (F34 k a2 a3).bind fun r2 => if (!r2.1.1) = true then some (((false, ([] : List Int), (0 : Int), ()), (1 : Int), ()), (((), (), (), ()), ((), (), (), ()), (), (), ())) else if ((a1_1.length : Int) == (0 : Int)) = true then some (((false, ([] : List Int), (0 : Int), ()), (2 : Int), ()), (((), (), (), ()), ((), (), (), ()), (), (), ())) else (F38 k a0_0 a0_1).bind fun r3 => (F38 k a1_0 a1_1).bind fun r4 => (F39 k (IntKind.i64.wrap (a1_2 + a2))).bind fun r5 => (F56 k r3.1.1.2.1 r5.1.1).bind fun r6 => (F39 k a0_2).bind fun r7 => (F56 k r4.1.1.2.1 r7.1.1).bind fun r8 => (F37 k (!(r3.1.1.1 == r4.1.1.1)) r6.1.1 r8.1.1 a3).bind fun r9 => (F35 k r9.1.1.1 r9.1.1.2.1 a2).bind fun r10 => some (((r10.1.1.1, r10.1.1.2.1, r10.1.1.2.2.1, ()), r10.1.2.1, ()), (((), (), (), ()), ((), (), (), ()), (), (), ())) := by kernel_rfl
theorem F23_eq (k : Nat) (a0_0 : Bool) (a0_1 : List Int) (a0_2 : Int) (a1_0 : Bool) (a1_1 : List Int) (a1_2 : Int) (a2 : Int) (a3 : Int) : F23 (k + 2) a0_0 a0_1 a0_2 a1_0 a1_1 a1_2 a2 a3 =
    (F40 k a0_0 a0_1 a0_2).bind fun r1 => if (!r1.1.1) = true then some (((false, ([] : List Int), (0 : Int), ()), (1 : Int), ()), (((), (), (), ()), ((), (), (), ()), (), (), ())) else (F40 k a1_0 a1_1 a1_2).bind fun r2 => if (!r2.1.1) = true then some (((false, ([] : List Int), (0 : Int), ()), (1 : Int), ()), (((), (), (), ()), ((), (), (), ()), (), (), ())) else (F41 k a2 (0 : Int) (12 : Int)).bind fun r3 => if (!r3.1.1) = true then some (((false, ([] : List Int), (0 : Int), ()), (1 : Int), ()), (((), (), (), ()), ((), (), (), ()), (), (), ())) else (F42 k a3).bind fun r4 => if (!r4.1.1) = true then some (((false, ([] : List Int), (0 : Int), ()), (1 : Int), ()), (((), (), (), ()), ((), (), (), ()), (), (), ())) else (F57 k a0_0 a0_1 a0_2 a1_0 a1_1 a1_2 a2 a3).bind fun r5 => some (((r5.1.1.1, r5.1.1.2.1, r5.1.1.2.2.1, ()), r5.1.2.1, ()), (((), (), (), ()), ((), (), (), ()), (), (), ())) := by kernel_rfl
theorem F24_eq (k : Nat) (a0 : Int) : F24 (k + 2) a0 =
    (F58 k a0 (0 : Int) (63 : Int)).bind fun r1 => if (!r1.1.1) = true then some (((false, ([] : List Int), ()), false, ()), ((), ())) else (F39 k a0).bind fun r2 => (F49 k false r2.1.1).bind fun r3 => some (((r3.1.1.1, r3.1.1.2.1, ()), r3.1.2.1, ()), ((), ())) := by kernel_rfl
theorem F25_eq (k : Nat) (a0_0 : Bool) (a0_1 : List Int) (a1_0 : Bool) (a1_1 : List Int) : F25 (k + 2) a0_0 a0_1 a1_0 a1_1 =
    (F59 k a0_0 a0_1 a1_0 a1_1).bind fun r1 => if (!r1.1.1) = true then some (((false, ([] : List Int), ()), false, ()), (((), (), ()), ((), (), ()), ())) else (F38 k a0_0 a0_1).bind fun r2 => (F38 k a1_0 a1_1).bind fun r3 => (F53 k r2.1.1.1 r2.1.1.2.1 r3.1.1.1 r3.1.1.2.1).bind fun r4 => (F49 k r4.1.1.1 r4.1.1.2.1).bind fun r5 => some (((r5.1.1.1, r5.1.1.2.1, ()), r5.1.2.1, ()), (((), (), ()), ((), (), ()), ())) := by kernel_rfl
theorem F26_eq (k : Nat) (a0_0 : Bool) (a0_1 : List Int) (a1_0 : Bool) (a1_1 : List Int) : F26 (k + 2) a0_0 a0_1 a1_0 a1_1 =
    (F59 k a0_0 a0_1 a1_0 a1_1).bind fun r1 => if (!r1.1.1) = true then some (((false, ([] : List Int), ()), false, ()), (((), (), ()), ((), (), ()), ())) else (F38 k a0_0 a0_1).bind fun r2 => (F38 k a1_0 a1_1).bind fun r3 => (F48 k r3.1.1.1 r3.1.1.2.1).bind fun r4 => (F47 k r2.1.1.1 r2.1.1.2.1 r4.1.1.1 r4.1.1.2.1).bind fun r5 => (F49 k r5.1.1.1 r5.1.1.2.1).bind fun r6 => some (((r6.1.1.1, r6.1.1.2.1, ()), r6.1.2.1, ()), (((), (), ()), ((), (), ()), ())) := by kernel_rfl
theorem F27_eq (k : Nat) (a0_0 : Bool) (a0_1 : List Int) (a1_0 : Bool) (a1_1 : List Int) : F27 (k + 2) a0_0 a0_1 a1_0 a1_1 =
    (F59 k a0_0 a0_1 a1_0 a1_1).bind fun r1 => if (!r1.1.1) = true then some (((false, ([] : List Int), ()), false, ()), (((), (), ()), ((), (), ()), ())) else (F38 k a0_0 a0_1).bind fun r2 => (F38 k a1_0 a1_1).bind fun r3 => (F47 k r2.1.1.1 r2.1.1.2.1 r3.1.1.1 r3.1.1.2.1).bind fun r4 => (F49 k r4.1.1.1 r4.1.1.2.1).bind fun r5 => some (((r5.1.1.1, r5.1.1.2.1, ()), r5.1.2.1, ()), (((), (), ()), ((), (), ()), ())) := by kernel_rfl
theorem F28_eq (k : Nat) (a0_0 : Bool) (a0_1 : List Int) (a1_0 : Bool) (a1_1 : List Int) : F28 (k + 2) a0_0 a0_1 a1_0 a1_1 =
    (F59 k a0_0 a0_1 a1_0 a1_1).bind fun r1 => if (!r1.1.1) = true then some (((2 : Int), ()), (((), (), ()), ((), (), ()), ())) else (F38 k a0_0 a0_1).bind fun r2 => (F38 k a1_0 a1_1).bind fun r3 => (F48 k r3.1.1.1 r3.1.1.2.1).bind fun r4 => (F47 k r2.1.1.1 r2.1.1.2.1 r4.1.1.1 r4.1.1.2.1).bind fun r5 => (F60 k r5.1.1.1 r5.1.1.2.1).bind fun r6 => some ((r6.1.1, ()), (((), (), ()), ((), (), ()), ())) := by kernel_rfl
theorem F29_eq (k : Nat) (a0 : List Int) : F29 (k + 2) a0 =
    if (decide ((a0.length : Int) > (2000 : Int))) = true then if (decide (0 ≤ (2000 : Int)) && decide ((2000 : Int) ≤ (a0.length : Int))) = true then F29c3 k (slices a0 0 2000) else none else F29c3 k a0 := by kernel_rfl
theorem F29c3_eq (k : Nat) (x0 : List Int) : F29c3 (k + 1) x0 =
    some (((x0, (0 : Int), ()), ()), ((), ())) := by kernel_rfl
theorem F30_eq (k : Nat) (a0_0 : List Int) (a0_1 : Int) : F30 (k + 2) a0_0 a0_1 =
    (F61 k a0_0 a0_1).bind fun r1 => (F32 k r1.2.1.1 r1.2.1.2.1 (30 : Int)).bind fun r2 => if (r2.1.1 == (0 : Int)) = true then (F31 k r2.2.1.1 r2.2.1.2.1 [(-1 : Int), (13 : Int), (4611686018427387904 : Int)]).bind fun r3 => F30c9 k r3.2.1.1 r3.2.1.2.1 false ([] : List Int) (0 : Int) r1.1.1.1 r1.1.1.2.1 r3.1.1 else if (r2.1.1 == (1 : Int)) = true then (F51 k r2.2.1.1 r2.2.1.2.1 (31 : Int)).bind fun r4 => F30c9 k r4.2.1.1 r4.2.1.2.1 false ([] : List Int) (0 : Int) r4.1.1.1 r4.1.1.2.1 r1.1.1.2.2.1 else if (r2.1.1 == (2 : Int)) = true then (F62 k r2.2.1.1 r2.2.1.2.1).bind fun r5 => F30c9 k r5.2.1.1 r5.2.1.2.1 false ([] : List Int) (0 : Int) r5.1.1.1 r5.1.1.2.1 r1.1.1.2.2.1 else F30c9 k r2.2.1.1 r2.2.1.2.1 false ([] : List Int) (0 : Int) r1.1.1.1 r1.1.1.2.1 r1.1.1.2.2.1 := by kernel_rfl
theorem F30c9_eq (k : Nat) (x0_0 : List Int) (x0_1 : Int) (x2_0 : Bool) (x2_1 : List Int) (x2_2 : Int) (x3_0 : Bool) (x3_1 : List Int) (x3_2 : Int) : F30c9 (k + 1) x0_0 x0_1 x2_0 x2_1 x2_2 x3_0 x3_1 x3_2 =
    some (((x3_0, x3_1, x3_2, ()), ()), ((x0_0, x0_1, ()), ())) := by kernel_rfl
theorem F31_eq (k : Nat) (a0_0 : List Int) (a0_1 : Int) (a1 : List Int) : F31 (k + 2) a0_0 a0_1 a1 =
    (F32 k a0_0 a0_1 (a1.length : Int)).bind fun r1 => if (decide (0 ≤ r1.1.1) && decide (r1.1.1 < (a1.length : Int))) = true then (a1[r1.1.1.toNat]?).bind fun y2 => some ((y2, ()), ((r1.2.1.1, r1.2.1.2.1, ()), (), ())) else none := by kernel_rfl
theorem F32_eq (k : Nat) (a0_0 : List Int) (a0_1 : Int) (a1 : Int) : F32 (k + 2) a0_0 a0_1 a1 =
    if (decide (a1 < (1 : Int))) = true then some (((0 : Int), ()), ((a0_0, (IntKind.i64.wrap (a0_1 + (1 : Int))), ()), (), ())) else if ((a0_0.length : Int) == (0 : Int)) = true then some (((0 : Int), ()), ((a0_0, (IntKind.i64.wrap (a0_1 + (1 : Int))), ()), (), ())) else if (decide ((IntKind.i64.wrap ((IntKind.i64.wrap (a0_1 + (1 : Int))) - (1 : Int))) < (a0_0.length : Int))) = true then if (decide (0 ≤ (IntKind.i64.wrap ((IntKind.i64.wrap (a0_1 + (1 : Int))) - (1 : Int))))) = true then (a0_0[(IntKind.i64.wrap ((IntKind.i64.wrap (a0_1 + (1 : Int))) - (1 : Int))).toNat]?).bind fun y1 => if (!(a1 == 0)) = true then some ((((IntKind.i64.wrap y1).tmod a1), ()), ((a0_0, (IntKind.i64.wrap (a0_1 + (1 : Int))), ()), (), ())) else none else none else if (!((a0_0.length : Int) == 0)) = true then if (decide (0 ≤ ((IntKind.i64.wrap ((IntKind.i64.wrap (a0_1 + (1 : Int))) - (1 : Int))).tmod (a0_0.length : Int)))) = true then (a0_0[((IntKind.i64.wrap ((IntKind.i64.wrap (a0_1 + (1 : Int))) - (1 : Int))).tmod (a0_0.length : Int)).toNat]?).bind fun y2 => if (!((a0_0.length : Int) == 0)) = true then if (decide (0 ≤ ((IntKind.i64.wrap ((IntKind.i64.wrap ((IntKind.i64.wrap ((IntKind.i64.wrap (a0_1 + (1 : Int))) - (1 : Int))) * (7 : Int))) + (3 : Int))).tmod (a0_0.length : Int)))) = true then (a0_0[((IntKind.i64.wrap ((IntKind.i64.wrap ((IntKind.i64.wrap ((IntKind.i64.wrap (a0_1 + (1 : Int))) - (1 : Int))) * (7 : Int))) + (3 : Int))).tmod (a0_0.length : Int)).toNat]?).bind fun y3 => if (!((a0_0.length : Int) == 0)) = true then if (!(a1 == 0)) = true then some ((((IntKind.i64.wrap (((BitVec.ofInt IntKind.i64.bits (IntKind.i64.wrap ((IntKind.i64.wrap ((IntKind.i64.wrap ((IntKind.i64.wrap ((IntKind.i64.wrap y2) * (131 : Int))) + (IntKind.i64.wrap ((IntKind.i64.wrap y3) * (1117 : Int))))) + (IntKind.i64.wrap ((IntKind.i64.wrap ((IntKind.i64.wrap (a0_1 + (1 : Int))) - (1 : Int))) * (29 : Int))))) + (IntKind.i64.wrap ((IntKind.i64.wrap ((IntKind.i64.wrap ((IntKind.i64.wrap (a0_1 + (1 : Int))) - (1 : Int))).tdiv (a0_0.length : Int))) * (53 : Int))))) ^^^ BitVec.ofInt IntKind.i64.bits (IntKind.i64.wrap ((IntKind.i64.wrap ((IntKind.i64.wrap ((IntKind.i64.wrap ((IntKind.i64.wrap ((IntKind.i64.wrap y2) * (131 : Int))) + (IntKind.i64.wrap ((IntKind.i64.wrap y3) * (1117 : Int))))) + (IntKind.i64.wrap ((IntKind.i64.wrap ((IntKind.i64.wrap (a0_1 + (1 : Int))) - (1 : Int))) * (29 : Int))))) + (IntKind.i64.wrap ((IntKind.i64.wrap ((IntKind.i64.wrap ((IntKind.i64.wrap (a0_1 + (1 : Int))) - (1 : Int))).tdiv (a0_0.length : Int))) * (53 : Int))))).tdiv (64 : Int)))).toNat : Int))).tmod a1), ()), ((a0_0, (IntKind.i64.wrap (a0_1 + (1 : Int))), ()), (), ())) else none else none else none else none else none else none := by kernel_rfl
theorem F33_eq (k : Nat) (a0_0 : Bool) (a0_1 : List Int) (a0_2 : Int) : F33 (k + 2) a0_0 a0_1 a0_2 =
    (F63 k a0_0 a0_1).bind fun r1 => if r1.1.1 = true then (F64 k a0_1).bind fun r2 => if (decide (r2.1.1 ≤ (30 : Int))) = true then (F58 k a0_2 (0 : Int) (12 : Int)).bind fun r3 => some ((r3.1.1, ()), (((), (), (), ()), ())) else some ((false, ()), (((), (), (), ()), ())) else some ((false, ()), (((), (), (), ()), ())) := by kernel_rfl
theorem F34_eq (k : Nat) (a0 : Int) (a1 : Int) : F34 (k + 2) a0 a1 =
    (F58 k a0 (0 : Int) (12 : Int)).bind fun r1 => if r1.1.1 = true then (F58 k a1 (1 : Int) (7 : Int)).bind fun r2 => some ((r2.1.1, ()), ((), (), ())) else some ((false, ()), ((), (), ())) := by kernel_rfl
theorem F35_eq (k : Nat) (a0_0 : Bool) (a0_1 : List Int) (a1 : Int) : F35 (k + 2) a0_0 a0_1 a1 =
    (F65 k a0_1).bind fun r1 => (F64 k r1.1.1).bind fun r2 => if (decide (r2.1.1 > (30 : Int))) = true then some (((false, ([] : List Int), (0 : Int), ()), (3 : Int), ()), (((), (), ()), (), ())) else (F49 k a0_0 a0_1).bind fun r3 => some (((r3.1.1.1, r3.1.1.2.1, a1, ()), (0 : Int), ()), (((), (), ()), (), ())) := by kernel_rfl
theorem F37_eq (k : Nat) (a0_0 : Bool) (a0_1 : List Int) (a1 : List Int) (a2 : Int) : F37 (k + 2) a0_0 a0_1 a1 a2 =
    (F66 k a0_1 a1).bind fun r1 => if (decide ((r1.1.2.1.length : Int) > (0 : Int))) = true then (F67 k r1.1.2.1 r1.1.2.1).bind fun r2 => (F68 k r2.1.1 a1).bind fun r3 => if (decide ((r1.1.1.length : Int) > (0 : Int))) = true then (r1.1.1[0]?).bind fun y4 => (F69 k a0_0 ((y4.tmod (2 : Int)) == (1 : Int)) r3.1.1 a2).bind fun r5 => if r5.1.1 = true then (F67 k r1.1.1 [(1 : Int)]).bind fun r6 => F37c7 k a0_0 a0_1 false ([] : List Int) r6.1.1 else F37c7 k a0_0 a0_1 false ([] : List Int) r1.1.1 else (F69 k a0_0 false r3.1.1 a2).bind fun r7 => if r7.1.1 = true then (F67 k r1.1.1 [(1 : Int)]).bind fun r8 => F37c7 k a0_0 a0_1 false ([] : List Int) r8.1.1 else F37c7 k a0_0 a0_1 false ([] : List Int) r1.1.1 else F37c7 k a0_0 a0_1 false ([] : List Int) r1.1.1 := by kernel_rfl
theorem F37c7_eq (k : Nat) (x3_0 : Bool) (x3_1 : List Int) (x6_0 : Bool) (x6_1 : List Int) (x7 : List Int) : F37c7 (k + 1) x3_0 x3_1 x6_0 x6_1 x7 =
    some (((x3_0, x7, ()), ()), (((), (), ()), (), (), ())) := by kernel_rfl
theorem F38_eq (k : Nat) (a0_0 : Bool) (a0_1 : List Int) : F38 (k + 2) a0_0 a0_1 =
    some (((a0_0, a0_1, ()), ()), (((), (), ()), ())) := by kernel_rfl
theorem F39_eq (k : Nat) (a0 : Int) : F39 (k + 2) a0 =
    F39c3 k [(1 : Int)] a0 (0 : Int) := by kernel_rfl
theorem F39c3_eq (k : Nat) (x3 : List Int) (x5 : Int) (x6 : Int) : F39c3 (k + 1) x3 x5 x6 =
    if (decide (x6 < x5)) = true then (F56 k x3 [(10 : Int)]).bind fun r1 => F39c3 k r1.1.1 x5 (IntKind.i64.wrap (x6 + (1 : Int))) else some ((x3, ()), ((), ())) := by kernel_rfl
theorem F40_eq (k : Nat) (a0_0 : Bool) (a0_1 : List Int) (a0_2 : Int) : F40 (k + 2) a0_0 a0_1 a0_2 =
    (F70 k a0_0 a0_1).bind fun r1 => if r1.1.1 = true then (F71 k a0_1).bind fun r2 => if (decide (r2.1.1 ≤ (30 : Int))) = true then (F41 k a0_2 (0 : Int) (12 : Int)).bind fun r3 => some ((r3.1.1, ()), (((), (), (), ()), ())) else some ((false, ()), (((), (), (), ()), ())) else some ((false, ()), (((), (), (), ()), ())) := by kernel_rfl
theorem F41_eq (k : Nat) (a0 : Int) (a1 : Int) (a2 : Int) : F41 (k + 2) a0 a1 a2 =
    if (decide (a0 ≥ a1)) = true then some ((decide (a0 ≤ a2), ()), ((), (), (), ())) else some ((false, ()), ((), (), (), ())) := by kernel_rfl
theorem F42_eq (k : Nat) (a0 : Int) : F42 (k + 2) a0 =
    (F41 k a0 (1 : Int) (7 : Int)).bind fun r1 => some ((r1.1.1, ()), ((), ())) := by kernel_rfl
theorem F44_eq (k : Nat) (a0_0 : Bool) (a0_1 : List Int) (a1_0 : Bool) (a1_1 : List Int) : F44 (k + 2) a0_0 a0_1 a1_0 a1_1 =
    if (a0_0 == a1_0) = true then (F76 k a0_1 a1_1).bind fun r1 => some ((r1.1.1, ()), (((), (), ()), ((), (), ()), ())) else some ((false, ()), (((), (), ()), ((), (), ()), ())) := by kernel_rfl
theorem F45_eq (k : Nat) (a0_0 : Bool) (a0_1 : List Int) (a0_2 : Int) (a1_0 : Bool) (a1_1 : List Int) (a1_2 : Int) : F45 (k + 2) a0_0 a0_1 a0_2 a1_0 a1_1 a1_2 =
    (F33 k a0_0 a0_1 a0_2).bind fun r1 => if r1.1.1 = true then (F33 k a1_0 a1_1 a1_2).bind fun r2 => some ((r2.1.1, ()), (((), (), (), ()), ((), (), (), ()), ())) else some ((false, ()), (((), (), (), ()), ((), (), (), ()), ())) := by kernel_rfl
theorem F47_eq (k : Nat) (a0_0 : Bool) (a0_1 : List Int) (a1_0 : Bool) (a1_1 : List Int) : F47 (k + 2) a0_0 a0_1 a1_0 a1_1 =
    if (a0_0 == a1_0) = true then (F67 k a0_1 a1_1).bind fun r1 => some (((a0_0, r1.1.1, ()), ()), (((), (), ()), ((), (), ()), ())) else (F68 k a0_1 a1_1).bind fun r2 => if (decide (r2.1.1 ≥ (0 : Int))) = true then (F77 k a0_1 a1_1).bind fun r3 => some (((a0_0, r3.1.1, ()), ()), (((), (), ()), ((), (), ()), ())) else (F77 k a1_1 a0_1).bind fun r4 => some (((a1_0, r4.1.1, ()), ()), (((), (), ()), ((), (), ()), ())) := by kernel_rfl
theorem F48_eq (k : Nat) (a0_0 : Bool) (a0_1 : List Int) : F48 (k + 2) a0_0 a0_1 =
    some ((((!a0_0), a0_1, ()), ()), (((), (), ()), ())) := by kernel_rfl
theorem F49_eq (k : Nat) (a0 : Bool) (a1 : List Int) : F49 (k + 2) a0 a1 =
    (F65 k a1).bind fun r1 => if (decide ((r1.1.1.length : Int) > (16 : Int))) = true then some (((false, ([] : List Int), ()), false, ()), ((), (), ())) else if a0 = true then (F78 k r1.1.1).bind fun r2 => some (((decide ((r1.1.1.length : Int) > (0 : Int)), r2.1.1, ()), true, ()), ((), (), ())) else (F78 k r1.1.1).bind fun r3 => some (((false, r3.1.1, ()), true, ()), ((), (), ())) := by kernel_rfl
theorem F50_eq (k : Nat) (a0 : Int) : F50 (k + 2) a0 =
    F50c2 k a0 ([] : List Int) := by kernel_rfl
theorem F50c2_eq (k : Nat) (x0 : Int) (x3 : List Int) : F50c2 (k + 1) x0 x3 =
    if (decide (x0 > (0 : Int))) = true then if (decide (x3.length + [(IntKind.i64.wrap (x0.tmod (10000 : Int)))].length ≤ 17592186044416)) = true then F50c2 k (IntKind.u64.wrap (x0.tdiv (10000 : Int))) (x3 ++ [(IntKind.i64.wrap (x0.tmod (10000 : Int)))]) else none else some ((x3, ()), ((), ())) := by kernel_rfl
theorem F51_eq (k : Nat) (a0_0 : List Int) (a0_1 : Int) (a1 : Int) : F51 (k + 2) a0_0 a0_1 a1 =
    (F32 k a0_0 a0_1 (64 : Int)).bind fun r1 => (F31 k r1.2.1.1 r1.2.1.2.1 [(0 : Int), (1 : Int), (1 : Int), (2 : Int), (3 : Int), (4 : Int), (5 : Int), (8 : Int), (9 : Int), (12 : Int), (17 : Int), (29 : Int), (30 : Int), (31 : Int), (33 : Int), (63 : Int), (64 : Int), (IntKind.i64.wrap ((1 : Int) + r1.1.1))]).bind fun r2 => if (decide (r2.1.1 > a1)) = true then (F32 k r2.2.1.1 r2.2.1.2.1 a1).bind fun r3 => F51c4 k r3.2.1.1 r3.2.1.2.1 false ([] : List Int) (IntKind.i64.wrap ((1 : Int) + r3.1.1)) else F51c4 k r2.2.1.1 r2.2.1.2.1 false ([] : List Int) r2.1.1 := by kernel_rfl
theorem F51c4_eq (k : Nat) (x0_0 : List Int) (x0_1 : Int) (x4_0 : Bool) (x4_1 : List Int) (x5 : Int) : F51c4 (k + 1) x0_0 x0_1 x4_0 x4_1 x5 =
    (F79 k x0_0 x0_1 x5).bind fun r4 => (F32 k r4.2.1.1 r4.2.1.2.1 (6 : Int)).bind fun r5 => if (r5.1.1 == (0 : Int)) = true then (F80 k (⟨#[48]⟩ : ByteArray) (IntKind.i64.wrap (x5 - (1 : Int)))).bind fun r6 => if (Nat.ble ((⟨#[49]⟩ : ByteArray).size + r6.1.1.size) 9223372036854775807) = true then F51c7 k r5.2.1.1 r5.2.1.2.1 x4_0 x4_1 x5 ((⟨#[49]⟩ : ByteArray) ++ r6.1.1) else none else F51c7 k r5.2.1.1 r5.2.1.2.1 x4_0 x4_1 x5 r4.1.1 := by kernel_rfl
theorem F51c7_eq (k : Nat) (x0_0 : List Int) (x0_1 : Int) (x4_0 : Bool) (x4_1 : List Int) (x5 : Int) (x6 : ByteArray) : F51c7 (k + 1) x0_0 x0_1 x4_0 x4_1 x5 x6 =
    (F32 k x0_0 x0_1 (6 : Int)).bind fun r7 => if (r7.1.1 == (0 : Int)) = true then (F80 k (⟨#[57]⟩ : ByteArray) x5).bind fun r8 => F51c9 k r7.2.1.1 r7.2.1.2.1 x4_0 x4_1 r8.1.1 else F51c9 k r7.2.1.1 r7.2.1.2.1 x4_0 x4_1 x6 := by kernel_rfl
theorem F51c9_eq (k : Nat) (x0_0 : List Int) (x0_1 : Int) (x4_0 : Bool) (x4_1 : List Int) (x6 : ByteArray) : F51c9 (k + 1) x0_0 x0_1 x4_0 x4_1 x6 =
    (F32 k x0_0 x0_1 (3 : Int)).bind fun r9 => (F82 k x6).bind fun r10 => (F81 k (r9.1.1 == (0 : Int)) r10.1.1).bind fun r11 => some (((r11.1.1.1, r11.1.1.2.1, ()), ()), ((r9.2.1.1, r9.2.1.2.1, ()), (), ())) := by kernel_rfl
theorem F53_eq (k : Nat) (a0_0 : Bool) (a0_1 : List Int) (a1_0 : Bool) (a1_1 : List Int) : F53 (k + 2) a0_0 a0_1 a1_0 a1_1 =
    (F56 k a0_1 a1_1).bind fun r1 => some ((((!(a0_0 == a1_0)), r1.1.1, ()), ()), (((), (), ()), ((), (), ()), ())) := by kernel_rfl
theorem F55_eq (k : Nat) (a0 : Int) : F55 (k + 2) a0 =
    F55c3 k a0 false ([] : List Int) ([] : List Int) a0 := by kernel_rfl
theorem F55c3_eq (k : Nat) (x0 : Int) (x2_0 : Bool) (x2_1 : List Int) (x3 : List Int) (x4 : Int) : F55c3 (k + 1) x0 x2_0 x2_1 x3 x4 =
    if (x4 != (0 : Int)) = true then if (decide ((x4.tmod (10000 : Int)) < (0 : Int))) = true then F55c7 k x0 x2_0 x2_1 x3 x4 (IntKind.i64.wrap (0 - (x4.tmod (10000 : Int)))) else F55c7 k x0 x2_0 x2_1 x3 x4 (x4.tmod (10000 : Int)) else some (((decide (x0 < (0 : Int)), x3, ()), ()), ((), ())) := by kernel_rfl
theorem F55c7_eq (k : Nat) (x0 : Int) (x2_0 : Bool) (x2_1 : List Int) (x3 : List Int) (x4 : Int) (x5 : Int) : F55c7 (k + 1) x0 x2_0 x2_1 x3 x4 x5 =
    if (decide (x3.length + [x5].length ≤ 17592186044416)) = true then F55c3 k x0 x2_0 x2_1 (x3 ++ [x5]) (IntKind.i64.wrap (x4.tdiv (10000 : Int))) else none := by kernel_rfl
theorem F56_eq (k : Nat) (a0 : List Int) (a1 : List Int) : F56 (k + 2) a0 a1 =
    if (decide (0 ≤ (IntKind.i64.wrap ((IntKind.i64.wrap ((a0.length : Int) + (a1.length : Int))) + (1 : Int)))) && decide ((IntKind.i64.wrap ((IntKind.i64.wrap ((a0.length : Int) + (a1.length : Int))) + (1 : Int))) ≤ (IntKind.i64.wrap ((IntKind.i64.wrap ((a0.length : Int) + (a1.length : Int))) + (1 : Int)))) && decide ((IntKind.i64.wrap ((IntKind.i64.wrap ((a0.length : Int) + (a1.length : Int))) + (1 : Int))) ≤ (17592186044416 : Int))) = true then F56c3 k a1 (List.replicate (IntKind.i64.wrap ((IntKind.i64.wrap ((a0.length : Int) + (a1.length : Int))) + (1 : Int))).toNat (0 : Int)) a0 (a0.length : Int) (0 : Int) else none := by kernel_rfl
theorem F56c3_eq (k : Nat) (x1 : List Int) (x5 : List Int) (x19 : List Int) (x20 : Int) (x21 : Int) : F56c3 (k + 1) x1 x5 x19 x20 x21 =
    if (decide (x21 < x20)) = true then if (decide (0 ≤ x21)) = true then (x19[x21.toNat]?).bind fun y1 => F56c7 k x1 x5 x21 y1 (0 : Int) x19 x20 x21 x1 (x1.length : Int) (0 : Int) else none else (F65 k x5).bind fun r2 => some ((r2.1.1, ()), ((), (), ())) := by kernel_rfl
theorem F56c7_eq (k : Nat) (x1 : List Int) (x5 : List Int) (x6 : Int) (x7 : Int) (x8 : Int) (x19 : List Int) (x20 : Int) (x21 : Int) (x26 : List Int) (x27 : Int) (x28 : Int) : F56c7 (k + 1) x1 x5 x6 x7 x8 x19 x20 x21 x26 x27 x28 =
    if (decide (x28 < x27)) = true then if (decide (0 ≤ x28)) = true then (x26[x28.toNat]?).bind fun y3 => if (decide (0 ≤ (IntKind.i64.wrap (x6 + x28))) && decide ((IntKind.i64.wrap (x6 + x28)) < (x5.length : Int))) = true then (x5[(IntKind.i64.wrap (x6 + x28)).toNat]?).bind fun y4 => if (decide (0 ≤ (IntKind.i64.wrap (x6 + x28))) && decide ((IntKind.i64.wrap (x6 + x28)) < (x5.length : Int))) = true then (x5[(IntKind.i64.wrap (x6 + x28)).toNat]?).bind fun y5 => F56c7 k x1 (x5.set ((IntKind.i64.wrap (x6 + x28)).toNat) ((IntKind.i64.wrap ((IntKind.i64.wrap (y4 + (IntKind.i64.wrap (x7 * y3)))) + x8)).tmod (10000 : Int))) x6 x7 (IntKind.i64.wrap ((IntKind.i64.wrap ((IntKind.i64.wrap (y4 + (IntKind.i64.wrap (x7 * y3)))) + x8)).tdiv (10000 : Int))) x19 x20 x21 x26 x27 (IntKind.i64.wrap (x28 + (1 : Int))) else none else none else none else if (decide (0 ≤ (IntKind.i64.wrap (x6 + (x1.length : Int)))) && decide ((IntKind.i64.wrap (x6 + (x1.length : Int))) < (x5.length : Int))) = true then (x5[(IntKind.i64.wrap (x6 + (x1.length : Int))).toNat]?).bind fun y6 => if (decide (0 ≤ (IntKind.i64.wrap (x6 + (x1.length : Int)))) && decide ((IntKind.i64.wrap (x6 + (x1.length : Int))) < (x5.length : Int))) = true then (x5[(IntKind.i64.wrap (x6 + (x1.length : Int))).toNat]?).bind fun y7 => F56c3 k x1 (x5.set ((IntKind.i64.wrap (x6 + (x1.length : Int))).toNat) (IntKind.i64.wrap (y6 + x8))) x19 x20 (IntKind.i64.wrap (x21 + (1 : Int))) else none else none := by kernel_rfl
theorem F57_eq (k : Nat) (a0_0 : Bool) (a0_1 : List Int) (a0_2 : Int) (a1_0 : Bool) (a1_1 : List Int) (a1_2 : Int) (a2 : Int) (a3 : Int) : F57 (k + 2) a0_0 a0_1 a0_2 a1_0 a1_1 a1_2 a2 a3 =
    if ((a1_1.length : Int) == (0 : Int)) = true then some (((false, ([] : List Int), (0 : Int), ()), (2 : Int), ()), (((), (), (), ()), ((), (), (), ()), (), (), ())) else (F75 k (IntKind.i64.wrap (a2 + a1_2))).bind fun r1 => (F85 k a0_1 r1.1.1).bind fun r2 => (F75 k a0_2).bind fun r3 => (F85 k a1_1 r3.1.1).bind fun r4 => (F74 k (!(a0_0 == a1_0)) r2.1.1 r4.1.1 a3).bind fun r5 => (F72 k (!(a0_0 == a1_0)) r5.1.1 a2).bind fun r6 => some (((r6.1.1.1, r6.1.1.2.1, r6.1.1.2.2.1, ()), r6.1.2.1, ()), (((), (), (), ()), ((), (), (), ()), (), (), ())) := by kernel_rfl
theorem F58_eq (k : Nat) (a0 : Int) (a1 : Int) (a2 : Int) : F58 (k + 2) a0 a1 a2 =
    if (decide (a0 ≥ a1)) = true then some ((decide (a0 ≤ a2), ()), ((), (), (), ())) else some ((false, ()), ((), (), (), ())) := by kernel_rfl
theorem F59_eq (k : Nat) (a0_0 : Bool) (a0_1 : List Int) (a1_0 : Bool) (a1_1 : List Int) : F59 (k + 2) a0_0 a0_1 a1_0 a1_1 =
    (F63 k a0_0 a0_1).bind fun r1 => if r1.1.1 = true then (F63 k a1_0 a1_1).bind fun r2 => some ((r2.1.1, ()), (((), (), ()), ((), (), ()), ())) else some ((false, ()), (((), (), ()), ((), (), ()), ())) := by kernel_rfl
theorem F60_eq (k : Nat) (a0_0 : Bool) (a0_1 : List Int) : F60 (k + 2) a0_0 a0_1 =
    if ((a0_1.length : Int) == (0 : Int)) = true then some (((0 : Int), ()), (((), (), ()), ())) else if a0_0 = true then some (((-1 : Int), ()), (((), (), ()), ())) else some (((1 : Int), ()), (((), (), ()), ())) := by kernel_rfl
theorem F61_eq (k : Nat) (a0_0 : List Int) (a0_1 : Int) : F61 (k + 2) a0_0 a0_1 =
    (F32 k a0_0 a0_1 (13 : Int)).bind fun r1 => (F31 k r1.2.1.1 r1.2.1.2.1 [(0 : Int), (0 : Int), (1 : Int), (2 : Int), (2 : Int), (3 : Int), (6 : Int), (12 : Int), r1.1.1]).bind fun r2 => (F32 k r2.2.1.1 r2.2.1.2.1 (5 : Int)).bind fun r3 => if (r3.1.1 == (0 : Int)) = true then (F32 k r3.2.1.1 r3.2.1.2.1 (200 : Int)).bind fun r4 => (F55 k (IntKind.i64.wrap (r4.1.1 - (100 : Int)))).bind fun r5 => some (((r5.1.1.1, r5.1.1.2.1, r2.1.1, ()), ()), ((r4.2.1.1, r4.2.1.2.1, ()), ())) else if (r3.1.1 == (1 : Int)) = true then (F31 k r3.2.1.1 r3.2.1.2.1 [(5 : Int), (15 : Int), (25 : Int), (35 : Int), (45 : Int), (-5 : Int), (-15 : Int), (-25 : Int), (50 : Int), (150 : Int), (250 : Int), (499 : Int), (500 : Int), (501 : Int), (-500 : Int), (1500 : Int), (2500 : Int), (-2500 : Int), (1000 : Int), (20 : Int)]).bind fun r6 => (F55 k r6.1.1).bind fun r7 => some (((r7.1.1.1, r7.1.1.2.1, r2.1.1, ()), ()), ((r6.2.1.1, r6.2.1.2.1, ()), ())) else if (r3.1.1 == (2 : Int)) = true then (F51 k r3.2.1.1 r3.2.1.2.1 (8 : Int)).bind fun r8 => some (((r8.1.1.1, r8.1.1.2.1, r2.1.1, ()), ()), ((r8.2.1.1, r8.2.1.2.1, ()), ())) else (F51 k r3.2.1.1 r3.2.1.2.1 (30 : Int)).bind fun r9 => some (((r9.1.1.1, r9.1.1.2.1, r2.1.1, ()), ()), ((r9.2.1.1, r9.2.1.2.1, ()), ())) := by kernel_rfl
theorem F62_eq (k : Nat) (a0_0 : List Int) (a0_1 : Int) : F62 (k + 2) a0_0 a0_1 =
    (F51 k a0_0 a0_1 (64 : Int)).bind fun r1 => (F32 k r1.2.1.1 r1.2.1.2.1 (30 : Int)).bind fun r2 => if (r2.1.1 == (0 : Int)) = true then if (decide (r1.1.1.2.1.length + [(0 : Int)].length ≤ 17592186044416)) = true then F62c12 k r2.2.1.1 r2.2.1.2.1 false ([] : List Int) r1.1.1.1 (r1.1.1.2.1 ++ [(0 : Int)]) else none else if (r2.1.1 == (1 : Int)) = true then (F31 k r2.2.1.1 r2.2.1.2.1 [(10000 : Int), (-1 : Int)]).bind fun r3 => if (decide (r1.1.1.2.1.length + [r3.1.1].length ≤ 17592186044416)) = true then F62c12 k r3.2.1.1 r3.2.1.2.1 false ([] : List Int) r1.1.1.1 (r1.1.1.2.1 ++ [r3.1.1]) else none else if (r2.1.1 == (2 : Int)) = true then some (((true, ([] : List Int), ()), ()), ((r2.2.1.1, r2.2.1.2.1, ()), ())) else if (r2.1.1 == (3 : Int)) = true then F62c10 k r2.2.1.1 r2.2.1.2.1 false ([] : List Int) r1.1.1.1 r1.1.1.2.1 else F62c12 k r2.2.1.1 r2.2.1.2.1 false ([] : List Int) r1.1.1.1 r1.1.1.2.1 := by kernel_rfl
theorem F62c12_eq (k : Nat) (x0_0 : List Int) (x0_1 : Int) (x2_0 : Bool) (x2_1 : List Int) (x3_0 : Bool) (x3_1 : List Int) : F62c12 (k + 1) x0_0 x0_1 x2_0 x2_1 x3_0 x3_1 =
    some (((x3_0, x3_1, ()), ()), ((x0_0, x0_1, ()), ())) := by kernel_rfl
theorem F62c10_eq (k : Nat) (x0_0 : List Int) (x0_1 : Int) (x2_0 : Bool) (x2_1 : List Int) (x3_0 : Bool) (x3_1 : List Int) : F62c10 (k + 1) x0_0 x0_1 x2_0 x2_1 x3_0 x3_1 =
    if (decide ((x3_1.length : Int) < (17 : Int))) = true then if (decide (x3_1.length + [(1 : Int)].length ≤ 17592186044416)) = true then F62c10 k x0_0 x0_1 x2_0 x2_1 x3_0 (x3_1 ++ [(1 : Int)]) else none else F62c12 k x0_0 x0_1 x2_0 x2_1 x3_0 x3_1 := by kernel_rfl
theorem F63_eq (k : Nat) (a0_0 : Bool) (a0_1 : List Int) : F63 (k + 2) a0_0 a0_1 =
    if (decide ((a0_1.length : Int) ≤ (16 : Int))) = true then if ((a0_1.length : Int) == (0 : Int)) = true then if (!a0_0) = true then (F88086 k a0_1).bind fun r1 => some (((!r1.1.1), ()), (((), (), ()), ())) else if (decide ((a0_1.length : Int) > (0 : Int))) = true then if (decide (0 ≤ (IntKind.i64.wrap ((a0_1.length : Int) - (1 : Int))))) = true then (a0_1[(IntKind.i64.wrap ((a0_1.length : Int) - (1 : Int))).toNat]?).bind fun y2 => if (y2 != (0 : Int)) = true then (F88086 k a0_1).bind fun r3 => some (((!r3.1.1), ()), (((), (), ()), ())) else some ((false, ()), (((), (), ()), ())) else none else some ((false, ()), (((), (), ()), ())) else if (decide ((a0_1.length : Int) > (0 : Int))) = true then if (decide (0 ≤ (IntKind.i64.wrap ((a0_1.length : Int) - (1 : Int))))) = true then (a0_1[(IntKind.i64.wrap ((a0_1.length : Int) - (1 : Int))).toNat]?).bind fun y4 => if (y4 != (0 : Int)) = true then (F88086 k a0_1).bind fun r5 => some (((!r5.1.1), ()), (((), (), ()), ())) else some ((false, ()), (((), (), ()), ())) else none else some ((false, ()), (((), (), ()), ())) else some ((false, ()), (((), (), ()), ())) := by kernel_rfl
theorem F64_eq (k : Nat) (a0 : List Int) : F64 (k + 2) a0 =
    if ((a0.length : Int) == (0 : Int)) = true then some (((0 : Int), ()), ((), ())) else (F88 k a0).bind fun r1 => some (((r1.1.1.size : Int), ()), ((), ())) := by kernel_rfl
theorem F65_eq (k : Nat) (a0 : List Int) : F65 (k + 2) a0 =
    F65c1 k a0 := by kernel_rfl
theorem F65c1_eq (k : Nat) (x0 : List Int) : F65c1 (k + 1) x0 =
    if (decide ((x0.length : Int) > (0 : Int))) = true then if (decide (0 ≤ (IntKind.i64.wrap ((x0.length : Int) - (1 : Int))))) = true then (x0[(IntKind.i64.wrap ((x0.length : Int) - (1 : Int))).toNat]?).bind fun y1 => if (y1 == (0 : Int)) = true then if (decide (0 ≤ (IntKind.i64.wrap ((x0.length : Int) - (1 : Int)))) && decide ((IntKind.i64.wrap ((x0.length : Int) - (1 : Int))) ≤ (x0.length : Int))) = true then F65c1 k (slices x0 0 ((IntKind.i64.wrap ((x0.length : Int) - (1 : Int))).toNat)) else none else some ((x0, ()), ((), ())) else none else some ((x0, ()), ((), ())) := by kernel_rfl
theorem F66_eq (k : Nat) (a0 : List Int) (a1 : List Int) : F66 (k + 2) a0 a1 =
    if (decide (0 ≤ (a0.length : Int)) && decide ((a0.length : Int) ≤ (a0.length : Int)) && decide ((a0.length : Int) ≤ (17592186044416 : Int))) = true then if Nat.ble a0.length 1152921504606846976 = true then (backK (.int .i64) [.box [.v (.sl (.int .i64))], .box [.o (.int .i64) 3 true], .box [.v (.sl (.int .i64))]] (fun i x d1 => (F1018066 k i x d1.1.1 d1.2.1.1 d1.2.2.1.1).bind fun o3 => some o3.2.2.2) a0.reverse ((a1, ()), (List.replicate (a0.length : Int).toNat (0 : Int), ()), (([] : List Int), ()), ())).bind fun d2 => F66c15 k d2.2.1.1 d2.2.2.1.1 else none else none := by kernel_rfl
theorem F66c15_eq (k : Nat) (x6_0 : List Int) (x7_0 : List Int) : F66c15 (k + 1) x6_0 x7_0 =
    (F65 k x6_0).bind fun r4 => some ((r4.1.1, x7_0, ()), ((), (), ())) := by kernel_rfl
theorem F67_eq (k : Nat) (a0 : List Int) (a1 : List Int) : F67 (k + 2) a0 a1 =
    if (decide (0 ≤ (IntKind.i64.wrap ((if (a1.length : Int) > (a0.length : Int) then (a1.length : Int) else (a0.length : Int)) + (1 : Int)))) && decide ((IntKind.i64.wrap ((if (a1.length : Int) > (a0.length : Int) then (a1.length : Int) else (a0.length : Int)) + (1 : Int))) ≤ (IntKind.i64.wrap ((if (a1.length : Int) > (a0.length : Int) then (a1.length : Int) else (a0.length : Int)) + (1 : Int)))) && decide ((IntKind.i64.wrap ((if (a1.length : Int) > (a0.length : Int) then (a1.length : Int) else (a0.length : Int)) + (1 : Int))) ≤ (17592186044416 : Int))) = true then F67c4 k (a0.take (List.replicate (IntKind.i64.wrap ((if (a1.length : Int) > (a0.length : Int) then (a1.length : Int) else (a0.length : Int)) + (1 : Int))).toNat (0 : Int)).length ++ (List.replicate (IntKind.i64.wrap ((if (a1.length : Int) > (a0.length : Int) then (a1.length : Int) else (a0.length : Int)) + (1 : Int))).toNat (0 : Int)).drop a0.length) a1 (a1.length : Int) (0 : Int) else none := by kernel_rfl
theorem F67c4_eq (k : Nat) (x5 : List Int) (x19 : List Int) (x20 : Int) (x21 : Int) : F67c4 (k + 1) x5 x19 x20 x21 =
    if (decide (x21 < x20)) = true then if (decide (0 ≤ x21)) = true then (x19[x21.toNat]?).bind fun y1 => if (decide (0 ≤ x21) && decide (x21 < (x5.length : Int))) = true then (x5[x21.toNat]?).bind fun y2 => if (decide (0 ≤ x21) && decide (x21 < (x5.length : Int))) = true then (x5[x21.toNat]?).bind fun y3 => F67c4 k (x5.set x21.toNat (IntKind.i64.wrap (y2 + y1))) x19 x20 (IntKind.i64.wrap (x21 + (1 : Int))) else none else none else none else F67c9 k x5 (IntKind.i64.wrap ((x5.length : Int) - (1 : Int))) (0 : Int) := by kernel_rfl
theorem F67c9_eq (k : Nat) (x5 : List Int) (x36 : Int) (x37 : Int) : F67c9 (k + 1) x5 x36 x37 =
    if (decide (x37 < x36)) = true then if (decide (0 ≤ (IntKind.i64.wrap (x37 + (1 : Int)))) && decide ((IntKind.i64.wrap (x37 + (1 : Int))) < (x5.length : Int))) = true then (x5[(IntKind.i64.wrap (x37 + (1 : Int))).toNat]?).bind fun y4 => if (decide (0 ≤ x37) && decide (x37 < (x5.length : Int))) = true then (x5[x37.toNat]?).bind fun y5 => if (decide (0 ≤ (IntKind.i64.wrap (x37 + (1 : Int)))) && decide ((IntKind.i64.wrap (x37 + (1 : Int))) < (x5.length : Int))) = true then (x5[(IntKind.i64.wrap (x37 + (1 : Int))).toNat]?).bind fun y6 => if (decide (0 ≤ x37) && decide (x37 < ((x5.set ((IntKind.i64.wrap (x37 + (1 : Int))).toNat) (IntKind.i64.wrap (y4 + (IntKind.i64.wrap (y5.tdiv (10000 : Int)))))).length : Int))) = true then ((x5.set ((IntKind.i64.wrap (x37 + (1 : Int))).toNat) (IntKind.i64.wrap (y4 + (IntKind.i64.wrap (y5.tdiv (10000 : Int))))))[x37.toNat]?).bind fun y7 => if (decide (0 ≤ x37) && decide (x37 < ((x5.set ((IntKind.i64.wrap (x37 + (1 : Int))).toNat) (IntKind.i64.wrap (y4 + (IntKind.i64.wrap (y5.tdiv (10000 : Int)))))).length : Int))) = true then ((x5.set ((IntKind.i64.wrap (x37 + (1 : Int))).toNat) (IntKind.i64.wrap (y4 + (IntKind.i64.wrap (y5.tdiv (10000 : Int))))))[x37.toNat]?).bind fun y8 => F67c9 k ((x5.set ((IntKind.i64.wrap (x37 + (1 : Int))).toNat) (IntKind.i64.wrap (y4 + (IntKind.i64.wrap (y5.tdiv (10000 : Int)))))).set x37.toNat (y7.tmod (10000 : Int))) x36 (IntKind.i64.wrap (x37 + (1 : Int))) else none else none else none else none else none else (F65 k x5).bind fun r9 => some ((r9.1.1, ()), ((), (), ())) := by kernel_rfl
theorem F68_eq (k : Nat) (a0 : List Int) (a1 : List Int) : F68 (k + 2) a0 a1 =
    if ((a0.length : Int) != (a1.length : Int)) = true then some (((if (if (IntKind.i64.wrap ((a0.length : Int) - (a1.length : Int))) < (1 : Int) then (IntKind.i64.wrap ((a0.length : Int) - (a1.length : Int))) else (1 : Int)) > (-1 : Int) then (if (IntKind.i64.wrap ((a0.length : Int) - (a1.length : Int))) < (1 : Int) then (IntKind.i64.wrap ((a0.length : Int) - (a1.length : Int))) else (1 : Int)) else (-1 : Int)), ()), ((), (), ())) else F68c4 k a0 a1 (IntKind.i64.wrap ((a0.length : Int) - (1 : Int))) := by kernel_rfl
theorem F68c4_eq (k : Nat) (x0 : List Int) (x1 : List Int) (x5 : Int) : F68c4 (k + 1) x0 x1 x5 =
    if (decide (x5 ≥ (0 : Int))) = true then if (decide (0 ≤ x5)) = true then (x0[x5.toNat]?).bind fun y1 => if (decide (0 ≤ x5)) = true then (x1[x5.toNat]?).bind fun y2 => if (y1 != y2) = true then if (decide (0 ≤ x5)) = true then (x0[x5.toNat]?).bind fun y3 => if (decide (0 ≤ x5)) = true then (x1[x5.toNat]?).bind fun y4 => some (((if (if (IntKind.i64.wrap (y3 - y4)) < (1 : Int) then (IntKind.i64.wrap (y3 - y4)) else (1 : Int)) > (-1 : Int) then (if (IntKind.i64.wrap (y3 - y4)) < (1 : Int) then (IntKind.i64.wrap (y3 - y4)) else (1 : Int)) else (-1 : Int)), ()), ((), (), ())) else none else none else F68c4 k x0 x1 (IntKind.i64.wrap (x5 - (1 : Int))) else none else none else some (((0 : Int), ()), ((), (), ())) := by kernel_rfl
theorem F69_eq (k : Nat) (a0 : Bool) (a1 : Bool) (a2 : Int) (a3 : Int) : F69 (k + 2) a0 a1 a2 a3 =
    if (a3 == (1 : Int)) = true then some ((true, ()), ((), (), (), (), ())) else if (a3 == (3 : Int)) = true then some (((!a0), ()), ((), (), (), (), ())) else if (a3 == (4 : Int)) = true then some ((a0, ()), ((), (), (), (), ())) else if (a3 == (5 : Int)) = true then some ((decide (a2 ≥ (0 : Int)), ()), ((), (), (), (), ())) else if (a3 == (6 : Int)) = true then some ((decide (a2 > (0 : Int)), ()), ((), (), (), (), ())) else if (a3 == (7 : Int)) = true then if (decide (a2 > (0 : Int))) = true then some ((true, ()), ((), (), (), (), ())) else if (a2 == (0 : Int)) = true then some ((a1, ()), ((), (), (), (), ())) else some ((false, ()), ((), (), (), (), ())) else some ((false, ()), ((), (), (), (), ())) := by kernel_rfl
theorem F70_eq (k : Nat) (a0_0 : Bool) (a0_1 : List Int) : F70 (k + 2) a0_0 a0_1 =
    if (decide ((a0_1.length : Int) > (16 : Int))) = true then some ((false, ()), (((), (), ()), ())) else if a0_0 = true then if ((a0_1.length : Int) == (0 : Int)) = true then some ((false, ()), (((), (), ()), ())) else F70c4 k a0_0 a0_1 (0 : Int) else F70c4 k a0_0 a0_1 (0 : Int) := by kernel_rfl
theorem F70c4_eq (k : Nat) (x1_0 : Bool) (x1_1 : List Int) (x3 : Int) : F70c4 (k + 1) x1_0 x1_1 x3 =
    if (decide (x3 < (x1_1.length : Int))) = true then if (decide (0 ≤ x3)) = true then (x1_1[x3.toNat]?).bind fun y1 => (F41 k y1 (0 : Int) (9999 : Int)).bind fun r2 => if (!r2.1.1) = true then some ((false, ()), (((), (), ()), ())) else F70c4 k x1_0 x1_1 (IntKind.i64.wrap (x3 + (1 : Int))) else none else if ((x1_1.length : Int) == (0 : Int)) = true then some ((true, ()), (((), (), ()), ())) else if (decide (0 ≤ (IntKind.i64.wrap ((x1_1.length : Int) - (1 : Int))))) = true then (x1_1[(IntKind.i64.wrap ((x1_1.length : Int) - (1 : Int))).toNat]?).bind fun y3 => some (((y3 != (0 : Int)), ()), (((), (), ()), ())) else none := by kernel_rfl
theorem F71_eq (k : Nat) (a0 : List Int) : F71 (k + 2) a0 =
    if ((a0.length : Int) == (0 : Int)) = true then some (((0 : Int), ()), ((), ())) else (F90 k a0).bind fun r1 => some (((r1.1.1.size : Int), ()), ((), ())) := by kernel_rfl
theorem F72_eq (k : Nat) (a0 : Bool) (a1 : List Int) (a2 : Int) : F72 (k + 2) a0 a1 a2 =
    (F71 k a1).bind fun r1 => if (decide (r1.1.1 > (30 : Int))) = true then some (((false, ([] : List Int), (0 : Int), ()), (3 : Int), ()), ((), (), (), ())) else if a0 = true then some (((decide ((a1.length : Int) > (0 : Int)), a1, a2, ()), (0 : Int), ()), ((), (), (), ())) else some (((false, a1, a2, ()), (0 : Int), ()), ((), (), (), ())) := by kernel_rfl
theorem F74_eq (k : Nat) (a0 : Bool) (a1 : List Int) (a2 : List Int) (a3 : Int) : F74 (k + 2) a0 a1 a2 a3 =
    (F91 k a1 a2).bind fun r1 => if ((r1.1.2.1.length : Int) == (0 : Int)) = true then some ((r1.1.1, ()), ((), (), (), (), ())) else if (decide ((r1.1.1.length : Int) > (0 : Int))) = true then (r1.1.1[0]?).bind fun y2 => (F94 k r1.1.2.1 r1.1.2.1).bind fun r3 => (F93 k r3.1.1 a2).bind fun r4 => (F92 k a3 a0 ((y2.tmod (2 : Int)) == (1 : Int)) r4.1.1).bind fun r5 => if r5.1.1 = true then (F94 k r1.1.1 [(1 : Int)]).bind fun r6 => some ((r6.1.1, ()), ((), (), (), (), ())) else some ((r1.1.1, ()), ((), (), (), (), ())) else (F94 k r1.1.2.1 r1.1.2.1).bind fun r7 => (F93 k r7.1.1 a2).bind fun r8 => (F92 k a3 a0 false r8.1.1).bind fun r9 => if r9.1.1 = true then (F94 k r1.1.1 [(1 : Int)]).bind fun r10 => some ((r10.1.1, ()), ((), (), (), (), ())) else some ((r1.1.1, ()), ((), (), (), (), ())) := by kernel_rfl
theorem F75_eq (k : Nat) (a0 : Int) : F75 (k + 2) a0 =
    F75c2 k a0 ([] : List Int) := by kernel_rfl
theorem F75c2_eq (k : Nat) (x0 : Int) (x3 : List Int) : F75c2 (k + 1) x0 x3 =
    if (decide (x0 ≥ (4 : Int))) = true then if (decide (x3.length + [(0 : Int)].length ≤ 17592186044416)) = true then F75c2 k (IntKind.i64.wrap (x0 - (4 : Int))) (x3 ++ [(0 : Int)]) else none else F75c6 k x0 x3 (1 : Int) := by kernel_rfl
theorem F75c6_eq (k : Nat) (x0 : Int) (x3 : List Int) (x4 : Int) : F75c6 (k + 1) x0 x3 x4 =
    if (decide (x0 > (0 : Int))) = true then F75c6 k (IntKind.i64.wrap (x0 - (1 : Int))) x3 (IntKind.i64.wrap (x4 * (10 : Int))) else if (decide (x3.length + [x4].length ≤ 17592186044416)) = true then some (((x3 ++ [x4]), ()), ((), ())) else none := by kernel_rfl
theorem F76_eq (k : Nat) (a0 : List Int) (a1 : List Int) : F76 (k + 2) a0 a1 =
    if ((a0.length : Int) != (a1.length : Int)) = true then some ((false, ()), ((), (), ())) else F76c4 k a0 a1 (0 : Int) := by kernel_rfl
theorem F76c4_eq (k : Nat) (x0 : List Int) (x1 : List Int) (x5 : Int) : F76c4 (k + 1) x0 x1 x5 =
    if (decide (x5 < (x0.length : Int))) = true then if (decide (0 ≤ x5)) = true then (x0[x5.toNat]?).bind fun y1 => if (decide (0 ≤ x5)) = true then (x1[x5.toNat]?).bind fun y2 => if (y1 != y2) = true then some ((false, ()), ((), (), ())) else F76c4 k x0 x1 (IntKind.i64.wrap (x5 + (1 : Int))) else none else none else some ((true, ()), ((), (), ())) := by kernel_rfl
theorem F77_eq (k : Nat) (a0 : List Int) (a1 : List Int) : F77 (k + 2) a0 a1 =
    (F95 k a0).bind fun r1 => F77c3 k r1.1.1 a1 (a1.length : Int) (0 : Int) := by kernel_rfl
theorem F77c3_eq (k : Nat) (x5 : List Int) (x11 : List Int) (x12 : Int) (x13 : Int) : F77c3 (k + 1) x5 x11 x12 x13 =
    if (decide (x13 < x12)) = true then if (decide (0 ≤ x13)) = true then (x11[x13.toNat]?).bind fun y2 => if (decide (0 ≤ x13) && decide (x13 < (x5.length : Int))) = true then (x5[x13.toNat]?).bind fun y3 => if (decide (0 ≤ x13) && decide (x13 < (x5.length : Int))) = true then (x5[x13.toNat]?).bind fun y4 => F77c3 k (x5.set x13.toNat (IntKind.i64.wrap (y3 - y2))) x11 x12 (IntKind.i64.wrap (x13 + (1 : Int))) else none else none else none else F77c8 k x5 (x5.length : Int) (0 : Int) := by kernel_rfl
theorem F77c8_eq (k : Nat) (x5 : List Int) (x27 : Int) (x28 : Int) : F77c8 (k + 1) x5 x27 x28 =
    if (decide (x28 < x27)) = true then if (decide (0 ≤ x28) && decide (x28 < (x5.length : Int))) = true then (x5[x28.toNat]?).bind fun y5 => if (decide (y5 < (0 : Int))) = true then if (decide (0 ≤ x28) && decide (x28 < (x5.length : Int))) = true then (x5[x28.toNat]?).bind fun y6 => if (decide (0 ≤ x28) && decide (x28 < (x5.length : Int))) = true then (x5[x28.toNat]?).bind fun y7 => if (decide (0 ≤ (IntKind.i64.wrap (x28 + (1 : Int)))) && decide ((IntKind.i64.wrap (x28 + (1 : Int))) < ((x5.set x28.toNat (IntKind.i64.wrap (y6 + (10000 : Int)))).length : Int))) = true then ((x5.set x28.toNat (IntKind.i64.wrap (y6 + (10000 : Int))))[(IntKind.i64.wrap (x28 + (1 : Int))).toNat]?).bind fun y8 => if (decide (0 ≤ (IntKind.i64.wrap (x28 + (1 : Int)))) && decide ((IntKind.i64.wrap (x28 + (1 : Int))) < ((x5.set x28.toNat (IntKind.i64.wrap (y6 + (10000 : Int)))).length : Int))) = true then ((x5.set x28.toNat (IntKind.i64.wrap (y6 + (10000 : Int))))[(IntKind.i64.wrap (x28 + (1 : Int))).toNat]?).bind fun y9 => F77c13 k ((x5.set x28.toNat (IntKind.i64.wrap (y6 + (10000 : Int)))).set ((IntKind.i64.wrap (x28 + (1 : Int))).toNat) (IntKind.i64.wrap (y8 - (1 : Int)))) x27 x28 else none else none else none else none else F77c13 k x5 x27 x28 else none else (F65 k x5).bind fun r10 => some ((r10.1.1, ()), ((), (), ())) := by kernel_rfl
theorem F77c13_eq (k : Nat) (x5 : List Int) (x27 : Int) (x28 : Int) : F77c13 (k + 1) x5 x27 x28 =
    F77c8 k x5 x27 (IntKind.i64.wrap (x28 + (1 : Int))) := by kernel_rfl
theorem F78_eq (k : Nat) (a0 : List Int) : F78 (k + 2) a0 =
    (F97 k a0).bind fun r1 => (F96 k r1.1.1).bind fun r2 => some ((r2.1.1, ()), ((), ())) := by kernel_rfl
theorem F79_eq (k : Nat) (a0_0 : List Int) (a0_1 : Int) (a1 : Int) : F79 (k + 2) a0_0 a0_1 a1 =
    if (decide (a1 < (1 : Int))) = true then some (((⟨#[48]⟩ : ByteArray), ()), ((a0_0, a0_1, ()), (), ())) else (F32 k a0_0 a0_1 (9 : Int)).bind fun r1 => F79c4 k r1.2.1.1 r1.2.1.2.1 a1 (bytesOf [(IntKind.u8.wrap (IntKind.i64.wrap ((49 : Int) + r1.1.1)))]) := by kernel_rfl
theorem F79c4_eq (k : Nat) (x0_0 : List Int) (x0_1 : Int) (x1 : Int) (x5 : ByteArray) : F79c4 (k + 1) x0_0 x0_1 x1 x5 =
    if (decide ((x5.size : Int) < x1)) = true then (F32 k x0_0 x0_1 (10 : Int)).bind fun r2 => (F31 k r2.2.1.1 r2.2.1.2.1 [(0 : Int), (0 : Int), (9 : Int), (9 : Int), (5 : Int), (1 : Int), r2.1.1]).bind fun r3 => if (Nat.ble (x5.size + (bytesOf [(IntKind.u8.wrap (IntKind.i64.wrap ((48 : Int) + r3.1.1)))]).size) 9223372036854775807) = true then F79c4 k r3.2.1.1 r3.2.1.2.1 x1 (x5 ++ (bytesOf [(IntKind.u8.wrap (IntKind.i64.wrap ((48 : Int) + r3.1.1)))])) else none else some ((x5, ()), ((x0_0, x0_1, ()), (), ())) := by kernel_rfl
theorem F80_eq (k : Nat) (a0 : ByteArray) (a1 : Int) : F80 (k + 2) a0 a1 =
    F80c2 k a0 a1 (⟨#[]⟩ : ByteArray) := by kernel_rfl
theorem F80c2_eq (k : Nat) (x0 : ByteArray) (x1 : Int) (x5 : ByteArray) : F80c2 (k + 1) x0 x1 x5 =
    if (decide (x1 > (0 : Int))) = true then if (Nat.ble (x5.size + x0.size) 9223372036854775807) = true then F80c2 k x0 (IntKind.i64.wrap (x1 - (1 : Int))) (x5 ++ x0) else none else some ((x5, ()), ((), (), ())) := by kernel_rfl
theorem F81_eq (k : Nat) (a0 : Bool) (a1 : List Int) : F81 (k + 2) a0 a1 =
    (F98 k a1).bind fun r1 => if (decide ((r1.1.1.length : Int) > (16 : Int))) = true then some (((false, ([] : List Int), ()), false, ()), ((), (), ())) else if a0 = true then some (((decide ((r1.1.1.length : Int) > (0 : Int)), r1.1.1, ()), true, ()), ((), (), ())) else some (((false, r1.1.1, ()), true, ()), ((), (), ())) := by kernel_rfl
theorem F82_eq (k : Nat) (a0 : ByteArray) : F82 (k + 2) a0 =
    F82c2 k a0 ([] : List Int) := by kernel_rfl
theorem F82c2_eq (k : Nat) (x0 : ByteArray) (x3 : List Int) : F82c2 (k + 1) x0 x3 =
    if (decide ((x0.size : Int) > (0 : Int))) = true then if (decide ((IntKind.i64.wrap ((x0.size : Int) - (4 : Int))) < (0 : Int))) = true then F82c6 k x0 x3 (0 : Int) else F82c6 k x0 x3 (IntKind.i64.wrap ((x0.size : Int) - (4 : Int))) else (F98 k x3).bind fun r1 => some ((r1.1.1, ()), ((), ())) := by kernel_rfl
theorem F82c6_eq (k : Nat) (x0 : ByteArray) (x3 : List Int) (x4 : Int) : F82c6 (k + 1) x0 x3 x4 =
    F82c8 k x0 x3 x4 (0 : Int) x4 := by kernel_rfl
theorem F82c8_eq (k : Nat) (x0 : ByteArray) (x3 : List Int) (x4 : Int) (x5 : Int) (x6 : Int) : F82c8 (k + 1) x0 x3 x4 x5 x6 =
    if (decide (x6 < (x0.size : Int))) = true then if (decide (0 ≤ x6)) = true then (x0[x6.toNat]?).bind fun u2 => F82c8 k x0 x3 x4 (IntKind.i64.wrap ((IntKind.i64.wrap (x5 * (10 : Int))) + (IntKind.i64.wrap (IntKind.u8.wrap ((u2.toNat : Int) - (48 : Int)))))) (IntKind.i64.wrap (x6 + (1 : Int))) else none else if (decide (x3.length + [x5].length ≤ 17592186044416)) = true then if (decide (0 ≤ x4) && decide (x4 ≤ (x0.size : Int))) = true then F82c2 k (x0.extract 0 x4.toNat) (x3 ++ [x5]) else none else none := by kernel_rfl
theorem F85_eq (k : Nat) (a0 : List Int) (a1 : List Int) : F85 (k + 2) a0 a1 =
    if (decide (0 ≤ (IntKind.i64.wrap ((a0.length : Int) + (a1.length : Int)))) && decide ((IntKind.i64.wrap ((a0.length : Int) + (a1.length : Int))) ≤ (IntKind.i64.wrap ((a0.length : Int) + (a1.length : Int)))) && decide ((IntKind.i64.wrap ((a0.length : Int) + (a1.length : Int))) ≤ (17592186044416 : Int))) = true then F85c3 k a0 a1 (List.replicate (IntKind.i64.wrap ((a0.length : Int) + (a1.length : Int))).toNat (0 : Int)) (0 : Int) else none := by kernel_rfl
theorem F85c3_eq (k : Nat) (x0 : List Int) (x1 : List Int) (x5 : List Int) (x6 : Int) : F85c3 (k + 1) x0 x1 x5 x6 =
    if (decide (x6 < (x0.length : Int))) = true then F85c7 k x0 x1 x5 x6 (0 : Int) (0 : Int) else (F98 k x5).bind fun r1 => some ((r1.1.1, ()), ((), (), ())) := by kernel_rfl
theorem F85c7_eq (k : Nat) (x0 : List Int) (x1 : List Int) (x5 : List Int) (x6 : Int) (x7 : Int) (x8 : Int) : F85c7 (k + 1) x0 x1 x5 x6 x7 x8 =
    if (decide (x8 < (x1.length : Int))) = true then if (decide (0 ≤ (IntKind.i64.wrap (x6 + x8))) && decide ((IntKind.i64.wrap (x6 + x8)) < (x5.length : Int))) = true then (x5[(IntKind.i64.wrap (x6 + x8)).toNat]?).bind fun y2 => if (decide (0 ≤ x6)) = true then (x0[x6.toNat]?).bind fun y3 => (F99 k x1 x8).bind fun r4 => if (decide (0 ≤ (IntKind.i64.wrap (x6 + x8))) && decide ((IntKind.i64.wrap (x6 + x8)) < (x5.length : Int))) = true then (x5[(IntKind.i64.wrap (x6 + x8)).toNat]?).bind fun y5 => F85c7 k x0 x1 (x5.set ((IntKind.i64.wrap (x6 + x8)).toNat) ((IntKind.i64.wrap ((IntKind.i64.wrap (y2 + (IntKind.i64.wrap (y3 * r4.1.1)))) + x7)).tmod (10000 : Int))) x6 (IntKind.i64.wrap ((IntKind.i64.wrap ((IntKind.i64.wrap (y2 + (IntKind.i64.wrap (y3 * r4.1.1)))) + x7)).tdiv (10000 : Int))) (IntKind.i64.wrap (x8 + (1 : Int))) else none else none else none else if (decide (x7 > (0 : Int))) = true then if (decide (0 ≤ (IntKind.i64.wrap (x6 + x8))) && decide ((IntKind.i64.wrap (x6 + x8)) < (x5.length : Int))) = true then (x5[(IntKind.i64.wrap (x6 + x8)).toNat]?).bind fun y6 => if (decide (0 ≤ x6)) = true then (x0[x6.toNat]?).bind fun y7 => (F99 k x1 x8).bind fun r8 => if (decide (0 ≤ (IntKind.i64.wrap (x6 + x8))) && decide ((IntKind.i64.wrap (x6 + x8)) < (x5.length : Int))) = true then (x5[(IntKind.i64.wrap (x6 + x8)).toNat]?).bind fun y9 => F85c7 k x0 x1 (x5.set ((IntKind.i64.wrap (x6 + x8)).toNat) ((IntKind.i64.wrap ((IntKind.i64.wrap (y6 + (IntKind.i64.wrap (y7 * r8.1.1)))) + x7)).tmod (10000 : Int))) x6 (IntKind.i64.wrap ((IntKind.i64.wrap ((IntKind.i64.wrap (y6 + (IntKind.i64.wrap (y7 * r8.1.1)))) + x7)).tdiv (10000 : Int))) (IntKind.i64.wrap (x8 + (1 : Int))) else none else none else none else F85c3 k x0 x1 x5 (IntKind.i64.wrap (x6 + (1 : Int))) := by kernel_rfl
theorem F87_eq (k : Nat) (a0 : Int) : F87 (k + 2) a0 =
    (F58 k a0 (0 : Int) (9999 : Int)).bind fun r1 => some (((!r1.1.1), ()), ((), ())) := by kernel_rfl
theorem F88_eq (k : Nat) (a0 : List Int) : F88 (k + 1) a0 = textR (a0, ()) := by kernel_rfl
theorem F90_eq (k : Nat) (a0 : List Int) : F90 (k + 2) a0 =
    if ((a0.length : Int) == (0 : Int)) = true then some (((⟨#[48]⟩ : ByteArray), ()), ((), ())) else if (decide (0 ≤ (IntKind.i64.wrap ((a0.length : Int) - (1 : Int))))) = true then (a0[(IntKind.i64.wrap ((a0.length : Int) - (1 : Int))).toNat]?).bind fun y1 => (F106 k y1).bind fun r2 => F90c5 k a0 r2.1.1 (IntKind.i64.wrap ((a0.length : Int) - (2 : Int))) else none := by kernel_rfl
theorem F90c5_eq (k : Nat) (x0 : List Int) (x3 : ByteArray) (x4 : Int) : F90c5 (k + 1) x0 x3 x4 =
    if (decide (x4 ≥ (0 : Int))) = true then if (decide (0 ≤ x4)) = true then (x0[x4.toNat]?).bind fun y3 => (F107 k y3 (4 : Int)).bind fun r4 => if (Nat.ble (x3.size + r4.1.1.size) 9223372036854775807) = true then F90c5 k x0 (x3 ++ r4.1.1) (IntKind.i64.wrap (x4 - (1 : Int))) else none else none else some ((x3, ()), ((), ())) := by kernel_rfl
theorem F91_eq (k : Nat) (a0 : List Int) (a1 : List Int) : F91 (k + 2) a0 a1 =
    if (decide (0 ≤ (a0.length : Int)) && decide ((a0.length : Int) ≤ (a0.length : Int)) && decide ((a0.length : Int) ≤ (17592186044416 : Int))) = true then F91c4 k a0 a1 (List.replicate (a0.length : Int).toNat (0 : Int)) ([] : List Int) (IntKind.i64.wrap ((a0.length : Int) - (1 : Int))) else none := by kernel_rfl
theorem F91c4_eq (k : Nat) (x0 : List Int) (x1 : List Int) (x6 : List Int) (x7 : List Int) (x8 : Int) : F91c4 (k + 1) x0 x1 x6 x7 x8 =
    if (decide (x8 ≥ (0 : Int))) = true then if (decide (0 ≤ x8)) = true then (x0[x8.toNat]?).bind fun y1 => if (decide ([y1].length + x7.length ≤ 17592186044416)) = true then (F98 k ([y1] ++ x7)).bind fun r2 => (F108 k r2.1.1 x1).bind fun r3 => if (decide (0 ≤ x8) && decide (x8 < (x6.length : Int))) = true then (x6[x8.toNat]?).bind fun y4 => (F98 k [r3.1.1]).bind fun r5 => (F85 k x1 r5.1.1).bind fun r6 => (F109 k r2.1.1 r6.1.1).bind fun r7 => F91c4 k x0 x1 (x6.set x8.toNat r3.1.1) r7.1.1 (IntKind.i64.wrap (x8 - (1 : Int))) else none else none else none else (F98 k x6).bind fun r8 => some ((r8.1.1, x7, ()), ((), (), ())) := by kernel_rfl
theorem F92_eq (k : Nat) (a0 : Int) (a1 : Bool) (a2 : Bool) (a3 : Int) : F92 (k + 2) a0 a1 a2 a3 =
    if (a0 == (1 : Int)) = true then some ((true, ()), ((), (), (), (), ())) else if (a0 == (2 : Int)) = true then some ((false, ()), ((), (), (), (), ())) else if (a0 == (3 : Int)) = true then some (((!a1), ()), ((), (), (), (), ())) else if (a0 == (4 : Int)) = true then some ((a1, ()), ((), (), (), (), ())) else if (a0 == (5 : Int)) = true then some ((decide (a3 ≥ (0 : Int)), ()), ((), (), (), (), ())) else if (a0 == (6 : Int)) = true then some ((decide (a3 > (0 : Int)), ()), ((), (), (), (), ())) else if (decide (a3 > (0 : Int))) = true then some ((true, ()), ((), (), (), (), ())) else if (a3 == (0 : Int)) = true then some ((a2, ()), ((), (), (), (), ())) else some ((false, ()), ((), (), (), (), ())) := by kernel_rfl
theorem F93_eq (k : Nat) (a0 : List Int) (a1 : List Int) : F93 (k + 2) a0 a1 =
    if ((a0.length : Int) != (a1.length : Int)) = true then if (decide ((a0.length : Int) < (a1.length : Int))) = true then some (((-1 : Int), ()), ((), (), ())) else some (((1 : Int), ()), ((), (), ())) else F93c6 k a0 a1 (IntKind.i64.wrap ((a0.length : Int) - (1 : Int))) := by kernel_rfl
theorem F93c6_eq (k : Nat) (x0 : List Int) (x1 : List Int) (x5 : Int) : F93c6 (k + 1) x0 x1 x5 =
    if (decide (x5 ≥ (0 : Int))) = true then if (decide (0 ≤ x5)) = true then (x0[x5.toNat]?).bind fun y1 => if (decide (0 ≤ x5)) = true then (x1[x5.toNat]?).bind fun y2 => if (decide (y1 < y2)) = true then some (((-1 : Int), ()), ((), (), ())) else if (decide (0 ≤ x5)) = true then (x0[x5.toNat]?).bind fun y3 => if (decide (0 ≤ x5)) = true then (x1[x5.toNat]?).bind fun y4 => if (decide (y3 > y4)) = true then some (((1 : Int), ()), ((), (), ())) else F93c6 k x0 x1 (IntKind.i64.wrap (x5 - (1 : Int))) else none else none else none else none else some (((0 : Int), ()), ((), (), ())) := by kernel_rfl
theorem F94_eq (k : Nat) (a0 : List Int) (a1 : List Int) : F94 (k + 2) a0 a1 =
    F94c4 k a0 a1 ([] : List Int) (0 : Int) (0 : Int) := by kernel_rfl
theorem F94c4_eq (k : Nat) (x0 : List Int) (x1 : List Int) (x5 : List Int) (x6 : Int) (x7 : Int) : F94c4 (k + 1) x0 x1 x5 x6 x7 =
    if (decide (x7 < (x0.length : Int))) = true then (F99 k x0 x7).bind fun r1 => (F99 k x1 x7).bind fun r2 => if (decide (x5.length + [((IntKind.i64.wrap ((IntKind.i64.wrap (r1.1.1 + r2.1.1)) + x6)).tmod (10000 : Int))].length ≤ 17592186044416)) = true then F94c4 k x0 x1 (x5 ++ [((IntKind.i64.wrap ((IntKind.i64.wrap (r1.1.1 + r2.1.1)) + x6)).tmod (10000 : Int))]) (IntKind.i64.wrap ((IntKind.i64.wrap ((IntKind.i64.wrap (r1.1.1 + r2.1.1)) + x6)).tdiv (10000 : Int))) (IntKind.i64.wrap (x7 + (1 : Int))) else none else if (decide (x7 < (x1.length : Int))) = true then (F99 k x0 x7).bind fun r3 => (F99 k x1 x7).bind fun r4 => if (decide (x5.length + [((IntKind.i64.wrap ((IntKind.i64.wrap (r3.1.1 + r4.1.1)) + x6)).tmod (10000 : Int))].length ≤ 17592186044416)) = true then F94c4 k x0 x1 (x5 ++ [((IntKind.i64.wrap ((IntKind.i64.wrap (r3.1.1 + r4.1.1)) + x6)).tmod (10000 : Int))]) (IntKind.i64.wrap ((IntKind.i64.wrap ((IntKind.i64.wrap (r3.1.1 + r4.1.1)) + x6)).tdiv (10000 : Int))) (IntKind.i64.wrap (x7 + (1 : Int))) else none else if (decide (x6 > (0 : Int))) = true then (F99 k x0 x7).bind fun r5 => (F99 k x1 x7).bind fun r6 => if (decide (x5.length + [((IntKind.i64.wrap ((IntKind.i64.wrap (r5.1.1 + r6.1.1)) + x6)).tmod (10000 : Int))].length ≤ 17592186044416)) = true then F94c4 k x0 x1 (x5 ++ [((IntKind.i64.wrap ((IntKind.i64.wrap (r5.1.1 + r6.1.1)) + x6)).tmod (10000 : Int))]) (IntKind.i64.wrap ((IntKind.i64.wrap ((IntKind.i64.wrap (r5.1.1 + r6.1.1)) + x6)).tdiv (10000 : Int))) (IntKind.i64.wrap (x7 + (1 : Int))) else none else (F98 k x5).bind fun r7 => some ((r7.1.1, ()), ((), (), ())) := by kernel_rfl
theorem F95_eq (k : Nat) (a0 : List Int) : F95 (k + 2) a0 =
    bothK (emptyL a0) (some ((([] : List Int), ()), ((), ()))) (if (decide (([] : List Int).length + a0.length ≤ 17592186044416)) = true then some (((([] : List Int) ++ a0), ()), ((), ())) else none) := by kernel_rfl
theorem F96_eq (k : Nat) (a0 : List Int) : F96 (k + 2) a0 =
    if ((a0.length : Int) == (a0.length : Int) && (a0.length : Int) == (a0.length : Int)) = true then some ((a0, ()), ((), ())) else none := by kernel_rfl
theorem F97_eq (k : Nat) (a0 : List Int) : F97 (k + 2) a0 =
    bothK (emptyL a0) (some ((([] : List Int), ()), ((), ()))) (if (decide (([] : List Int).length + a0.length ≤ 17592186044416)) = true then some (((([] : List Int) ++ a0), ()), ((), ())) else none) := by kernel_rfl
theorem F98_eq (k : Nat) (a0 : List Int) : F98 (k + 2) a0 =
    F98c2 k a0 (a0.length : Int) := by kernel_rfl
theorem F98c2_eq (k : Nat) (x0 : List Int) (x3 : Int) : F98c2 (k + 1) x0 x3 =
    if (decide (x3 > (0 : Int))) = true then if (decide (0 ≤ (IntKind.i64.wrap (x3 - (1 : Int))))) = true then (x0[(IntKind.i64.wrap (x3 - (1 : Int))).toNat]?).bind fun y1 => if (y1 == (0 : Int)) = true then F98c2 k x0 (IntKind.i64.wrap (x3 - (1 : Int))) else if (decide (0 ≤ x3) && decide (x3 ≤ (x0.length : Int))) = true then if (decide (([] : List Int).length + (slices x0 0 x3.toNat).length ≤ 17592186044416)) = true then some (((([] : List Int) ++ (slices x0 0 x3.toNat)), ()), ((), ())) else none else none else none else if (decide (0 ≤ x3) && decide (x3 ≤ (x0.length : Int))) = true then if (decide (([] : List Int).length + (slices x0 0 x3.toNat).length ≤ 17592186044416)) = true then some (((([] : List Int) ++ (slices x0 0 x3.toNat)), ()), ((), ())) else none else none := by kernel_rfl
theorem F99_eq (k : Nat) (a0 : List Int) (a1 : Int) : F99 (k + 2) a0 a1 =
    if (decide (a1 < (a0.length : Int))) = true then if (decide (0 ≤ a1)) = true then (a0[a1.toNat]?).bind fun y1 => some ((y1, ()), ((), (), ())) else none else some (((0 : Int), ()), ((), (), ())) := by kernel_rfl
theorem F106_eq (k : Nat) (a0 : Int) : F106 (k + 2) a0 =
    if (decide (a0 < (-9223372036854775807 : Int))) = true then some (((⟨#[45, 57, 50, 50, 51, 51, 55, 50, 48, 51, 54, 56, 53, 52, 55, 55, 53, 56, 48, 56]⟩ : ByteArray), ()), ((), ())) else if (decide (a0 < (0 : Int))) = true then (F106 k (IntKind.i64.wrap (0 - a0))).bind fun r1 => if (Nat.ble ((⟨#[45]⟩ : ByteArray).size + r1.1.1.size) 9223372036854775807) = true then some ((((⟨#[45]⟩ : ByteArray) ++ r1.1.1), ()), ((), ())) else none else if (decide (a0 < (10 : Int))) = true then some (((bytesOf [(IntKind.u8.wrap (IntKind.i64.wrap ((48 : Int) + a0)))]), ()), ((), ())) else (F106 k (IntKind.i64.wrap (a0.tdiv (10 : Int)))).bind fun r2 => if (Nat.ble (r2.1.1.size + (bytesOf [(IntKind.u8.wrap (IntKind.i64.wrap ((48 : Int) + (a0.tmod (10 : Int)))))]).size) 9223372036854775807) = true then some (((r2.1.1 ++ (bytesOf [(IntKind.u8.wrap (IntKind.i64.wrap ((48 : Int) + (a0.tmod (10 : Int)))))])), ()), ((), ())) else none := by kernel_rfl
theorem F107_eq (k : Nat) (a0 : Int) (a1 : Int) : F107 (k + 2) a0 a1 =
    (F106 k a0).bind fun r1 => F107c2 k a1 r1.1.1 := by kernel_rfl
theorem F107c2_eq (k : Nat) (x1 : Int) (x5 : ByteArray) : F107c2 (k + 1) x1 x5 =
    if (decide ((x5.size : Int) < x1)) = true then if (Nat.ble ((⟨#[48]⟩ : ByteArray).size + x5.size) 9223372036854775807) = true then F107c2 k x1 ((⟨#[48]⟩ : ByteArray) ++ x5) else none else some ((x5, ()), ((), (), ())) := by kernel_rfl
theorem F108_eq (k : Nat) (a0 : List Int) (a1 : List Int) : F108 (k + 2) a0 a1 =
    F108c3 k a0 a1 (0 : Int) (10000 : Int) := by kernel_rfl
theorem F108c3_eq (k : Nat) (x0 : List Int) (x1 : List Int) (x5 : Int) (x6 : Int) : F108c3 (k + 1) x0 x1 x5 x6 =
    if (decide ((IntKind.i64.wrap (x6 - x5)) > (1 : Int))) = true then (F85 k x1 [(IntKind.i64.wrap ((IntKind.i64.wrap (x5 + x6)).tdiv (2 : Int)))]).bind fun r1 => (F93 k r1.1.1 x0).bind fun r2 => if (decide (r2.1.1 ≤ (0 : Int))) = true then F108c3 k x0 x1 (IntKind.i64.wrap ((IntKind.i64.wrap (x5 + x6)).tdiv (2 : Int))) x6 else F108c3 k x0 x1 x5 (IntKind.i64.wrap ((IntKind.i64.wrap (x5 + x6)).tdiv (2 : Int))) else some ((x5, ()), ((), (), ())) := by kernel_rfl
theorem F109_eq (k : Nat) (a0 : List Int) (a1 : List Int) : F109 (k + 2) a0 a1 =
    F109c4 k a0 a1 ([] : List Int) (0 : Int) (0 : Int) := by kernel_rfl
theorem F109c4_eq (k : Nat) (x0 : List Int) (x1 : List Int) (x5 : List Int) (x6 : Int) (x7 : Int) : F109c4 (k + 1) x0 x1 x5 x6 x7 =
    if (decide (x7 < (x0.length : Int))) = true then if (decide (0 ≤ x7)) = true then (x0[x7.toNat]?).bind fun y1 => (F99 k x1 x7).bind fun r2 => if (decide ((IntKind.i64.wrap ((IntKind.i64.wrap (y1 - r2.1.1)) - x6)) < (0 : Int))) = true then F109c11 k x0 x1 x5 (1 : Int) x7 (IntKind.i64.wrap ((IntKind.i64.wrap ((IntKind.i64.wrap (y1 - r2.1.1)) - x6)) + (10000 : Int))) else F109c11 k x0 x1 x5 (0 : Int) x7 (IntKind.i64.wrap ((IntKind.i64.wrap (y1 - r2.1.1)) - x6)) else none else (F98 k x5).bind fun r3 => some ((r3.1.1, ()), ((), (), ())) := by kernel_rfl
theorem F109c11_eq (k : Nat) (x0 : List Int) (x1 : List Int) (x5 : List Int) (x6 : Int) (x7 : Int) (x8 : Int) : F109c11 (k + 1) x0 x1 x5 x6 x7 x8 =
    if (decide (x5.length + [x8].length ≤ 17592186044416)) = true then F109c4 k x0 x1 (x5 ++ [x8]) x6 (IntKind.i64.wrap (x7 + (1 : Int))) else none := by kernel_rfl
theorem F88086_eq (k : Nat) (a0 : List Int) : F88086 (k + 2) a0 =
    (F88100 k a0).bind fun r1 => some ((decide (r1.1.1 ≥ (0 : Int)), ()), ((), (), ())) := by kernel_rfl
theorem F88100_eq (k : Nat) (a0 : List Int) : F88100 (k + 2) a0 =
    F88100c2 k a0 (a0.length : Int) (0 : Int) := by kernel_rfl
theorem F88100c2_eq (k : Nat) (x0 : List Int) (x7 : Int) (x8 : Int) : F88100c2 (k + 1) x0 x7 x8 =
    if (decide (x8 < x7)) = true then if (decide (0 ≤ x8)) = true then (x0[x8.toNat]?).bind fun y1 => (F87 k y1).bind fun r2 => if r2.1.1 = true then some ((x8, ()), ((), (), ())) else F88100c2 k x0 x7 (IntKind.i64.wrap (x8 + (1 : Int))) else none else some (((-1 : Int), ()), ((), (), ())) := by kernel_rfl
theorem F1018066_eq (k : Nat) (a0 : Int) (a1 : Int) (a2_0 : List Int) (a3_0 : List Int) (a4_0 : List Int) : F1018066 (k + 1) a0 a1 a2_0 a3_0 a4_0 =
    if (decide ([a1].length + a4_0.length ≤ 17592186044416)) = true then (F65 k ([a1] ++ a4_0)).bind fun r1 => F1018066c8 k a2_0 a3_0 r1.1.1 a0 (0 : Int) (9999 : Int) else none := by kernel_rfl
theorem F1018066c8_eq (k : Nat) (x3_0 : List Int) (x6_0 : List Int) (x7_0 : List Int) (x8 : Int) (x10 : Int) (x11 : Int) : F1018066c8 (k + 1) x3_0 x6_0 x7_0 x8 x10 x11 =
    if (decide (x10 < x11)) = true then (F50 k (IntKind.u64.wrap (IntKind.i64.wrap ((IntKind.i64.wrap ((IntKind.i64.wrap (x10 + x11)) + (1 : Int))).tdiv (2 : Int))))).bind fun r2 => (F56 k x3_0 r2.1.1).bind fun r3 => (F68 k r3.1.1 x7_0).bind fun r4 => if (decide (r4.1.1 ≤ (0 : Int))) = true then F1018066c8 k x3_0 x6_0 x7_0 x8 (IntKind.i64.wrap ((IntKind.i64.wrap ((IntKind.i64.wrap (x10 + x11)) + (1 : Int))).tdiv (2 : Int))) x11 else F1018066c8 k x3_0 x6_0 x7_0 x8 x10 (IntKind.i64.wrap ((IntKind.i64.wrap ((IntKind.i64.wrap ((IntKind.i64.wrap (x10 + x11)) + (1 : Int))).tdiv (2 : Int))) - (1 : Int))) else if (decide (0 ≤ x8) && decide (x8 < (x6_0.length : Int))) = true then (x6_0[x8.toNat]?).bind fun y5 => (F50 k (IntKind.u64.wrap x10)).bind fun r6 => (F56 k x3_0 r6.1.1).bind fun r7 => (F77 k x7_0 r7.1.1).bind fun r8 => some ((), ((), (), (x3_0, ()), (x6_0.set x8.toNat x10, ()), (r8.1.1, ()), ())) else none := by kernel_rfl
end Go.Proofs.YtennmjbdmglebaaGreatDoor.R
end

section
/-! Rf: what is to be shown of a law, with no machine in sight. -/
set_option autoImplicit false
namespace Go.Proofs.YtennmjbdmglebaaGreatDoor.R
open Go.Rf
def PureFnDecDiv : Prop := ∀ (a0 : List Int), wfT (.sl (.int .u8)) a0 → ∃ k p, F8 k a0 = some ((true, ()), p)
end Go.Proofs.YtennmjbdmglebaaGreatDoor.R
end

section
namespace Go.Proofs
open Go.Shelf
def Tryz.lays169_ren : Go.Shelf.Ren := ⟨fun | 169 => 104 | n => n, fun | 70 => 106 | 9 => 9 | 0 => 0 | 72 => 108 | 37 => 22 | 127 => 120 | 3 => 3 | 5 => 5 | n => n, fun | n => n⟩
theorem Tryz.lays169 : Go.Proofs.Lays.n169 Tryz.prog Tryz.lays169_ren := {
  mixed := by kernel_rfl
  f169 := Tryz.func104.trans (congrArg some (by kernel_rfl))
  t0 := Tryz.underlying0
  a0 := Tryz.isAgg0
  z0 := Tryz.sizeOf0
  v0 := Tryz.zeroValue0
  t3 := Tryz.underlying3
  a3 := Tryz.isAgg3
  z3 := Tryz.sizeOf3
  v3 := Tryz.zeroValue3
  t9 := Tryz.underlying9
  a9 := Tryz.isAgg9
  z9 := Tryz.sizeOf9
  v9 := Tryz.zeroValue9
  t37 := Tryz.underlying22
  a37 := Tryz.isAgg22
  z37 := Tryz.sizeOf22
  v37 := Tryz.zeroValue22
  t70 := Tryz.underlying106
  a70 := Tryz.isAgg106
  z70 := Tryz.sizeOf106
  v70 := Tryz.zeroValue106
  t72 := Tryz.underlying108
  a72 := Tryz.isAgg108
  z72 := Tryz.sizeOf108
  v72 := Tryz.zeroValue108
  t127 := Tryz.underlying120
  a127 := Tryz.isAgg120
  z127 := Tryz.sizeOf120
  v127 := Tryz.zeroValue120 }
theorem Tryz.Builder_Extra_169 : Builder.Extra Tryz.prog Tryz.lays169_ren := {
  sizeBuilder := by kernel_rfl
  liesBuilder := by kernel_rfl
  t5 := Tryz.underlying5
  a5 := Tryz.isAgg5
  z5 := Tryz.sizeOf5
  v5 := Tryz.zeroValue5
  infoByte := by kernel_rfl
  cellsByte := by kernel_rfl
  sizeByte := by kernel_rfl
  neB5 := by decide }
open Go.RowKit in
/-- (*strings.Builder).String: "String returns the accumulated string.": WHATEVER THE BUILDER HOLDS; THE FORM '_k': OVER 'Lib.IsBuilderF' (a builder that 'String()' may have read), AND WITH THE FRAME THAT REACHES ABOVE THE BUILDER: 'Lib.OthersKept': every block that is not b and is no row of uint8's stands as it stood: the iterator of a range among them. (LAID: no walk: one application.) -/
theorem Tryz.Builder_String_any_k (B b : Nat) (l : List UInt8) (w : World) (h : Lib.IsBuilderF 108 5 B b (Lib.byteCells l) w) (hBw : B ≤ w.heap.size) :
    Calls Tryz.prog 104 #[.pointer (some ⟨b, 0, none⟩)] w fun e w' => e = .returned (.string ⟨l.toArray⟩) ∧ (Lib.IsBuilderF 108 5 B b (Lib.byteCells l) w' ∧ Below B w w' ∧ Lib.OthersKept 5 (some b) w w') := Any.Builder_String_any_k Tryz.lays169 Tryz.Builder_Extra_169 B b l w h hBw
def Tryz.laysM171_ren : Go.Shelf.Ren := ⟨fun | 171 => 101 | 243 => 110 | 246 => 116 | 283 => 122 | 284 => 123 | 285 => 124 | 286 => 125 | 129 => 128 | 317 => 127 | 318 => 129 | 319 => 130 | 320 => 131 | 337 => 132 | 338 => 133 | n => n, fun | 3 => 3 | 9 => 9 | 2 => 2 | 4 => 4 | 171 => 129 | 0 => 0 | 53 => 67 | 37 => 22 | 5 => 5 | 173 => 132 | 212 => 136 | 51 => 122 | 20 => 20 | 213 => 137 | 46 => 115 | 232 => 140 | 233 => 141 | n => n, fun | 17 => 0 | 18 => 2 | 19 => 3 | n => n⟩
theorem Tryz.laysM171 : Go.Proofs.LaysM.n171 Tryz.prog Tryz.laysM171_ren := {
  mixed := by kernel_rfl
  f129 := Tryz.func128.trans (congrArg some (by kernel_rfl))
  f171 := Tryz.func101.trans (congrArg some (by kernel_rfl))
  f243 := Tryz.func110.trans (congrArg some (by kernel_rfl))
  f246 := Tryz.func116.trans (congrArg some (by kernel_rfl))
  f283 := Tryz.func122.trans (congrArg some (by kernel_rfl))
  f284 := Tryz.func123.trans (congrArg some (by kernel_rfl))
  f285 := Tryz.func124.trans (congrArg some (by kernel_rfl))
  f286 := Tryz.func125.trans (congrArg some (by kernel_rfl))
  f317 := Tryz.func127.trans (congrArg some (by kernel_rfl))
  f318 := Tryz.func129.trans (congrArg some (by kernel_rfl))
  f319 := Tryz.func130.trans (congrArg some (by kernel_rfl))
  f320 := Tryz.func131.trans (congrArg some (by kernel_rfl))
  f337 := Tryz.func132.trans (congrArg some (by kernel_rfl))
  f338 := Tryz.func133.trans (congrArg some (by kernel_rfl))
  t0 := Tryz.underlying0
  a0 := Tryz.isAgg0
  z0 := Tryz.sizeOf0
  v0 := Tryz.zeroValue0
  t2 := Tryz.underlying2
  a2 := Tryz.isAgg2
  z2 := Tryz.sizeOf2
  v2 := Tryz.zeroValue2
  t3 := Tryz.underlying3
  a3 := Tryz.isAgg3
  z3 := Tryz.sizeOf3
  v3 := Tryz.zeroValue3
  t4 := Tryz.underlying4
  a4 := Tryz.isAgg4
  z4 := Tryz.sizeOf4
  v4 := Tryz.zeroValue4
  t5 := Tryz.underlying5
  a5 := Tryz.isAgg5
  z5 := Tryz.sizeOf5
  v5 := Tryz.zeroValue5
  t9 := Tryz.underlying9
  a9 := Tryz.isAgg9
  z9 := Tryz.sizeOf9
  v9 := Tryz.zeroValue9
  t20 := Tryz.underlying20
  a20 := Tryz.isAgg20
  z20 := Tryz.sizeOf20
  v20 := Tryz.zeroValue20
  t37 := Tryz.underlying22
  a37 := Tryz.isAgg22
  z37 := Tryz.sizeOf22
  v37 := Tryz.zeroValue22
  t46 := Tryz.underlying115
  a46 := Tryz.isAgg115
  z46 := Tryz.sizeOf115
  v46 := Tryz.zeroValue115
  t51 := Tryz.underlying122
  a51 := Tryz.isAgg122
  z51 := Tryz.sizeOf122
  v51 := Tryz.zeroValue122
  t53 := Tryz.underlying67
  a53 := Tryz.isAgg67
  z53 := Tryz.sizeOf67
  v53 := Tryz.zeroValue67
  t171 := Tryz.underlying129
  a171 := Tryz.isAgg129
  z171 := Tryz.sizeOf129
  v171 := Tryz.zeroValue129
  t173 := Tryz.underlying132
  a173 := Tryz.isAgg132
  z173 := Tryz.sizeOf132
  v173 := Tryz.zeroValue132
  t212 := Tryz.underlying136
  a212 := Tryz.isAgg136
  z212 := Tryz.sizeOf136
  v212 := Tryz.zeroValue136
  t213 := Tryz.underlying137
  a213 := Tryz.isAgg137
  z213 := Tryz.sizeOf137
  t232 := Tryz.underlying140
  a232 := Tryz.isAgg140
  z232 := Tryz.sizeOf140
  v232 := Tryz.zeroValue140
  t233 := Tryz.underlying141
  a233 := Tryz.isAgg141
  z233 := Tryz.sizeOf141
  v233 := Tryz.zeroValue141
  g17 := by kernel_rfl
  g18 := by kernel_rfl
  g19 := by kernel_rfl
  i0 := by kernel_rfl
  i2 := by kernel_rfl
  i3 := by kernel_rfl
  i4 := by kernel_rfl
  i5 := by kernel_rfl
  i9 := by kernel_rfl
  i20 := by kernel_rfl
  i37 := by kernel_rfl
  i46 := by kernel_rfl
  i51 := by kernel_rfl
  i53 := by kernel_rfl
  i171 := by kernel_rfl
  i173 := by kernel_rfl
  i212 := by kernel_rfl
  i232 := by kernel_rfl
  i233 := by kernel_rfl
  m17 := by kernel_rfl
  m18 := by kernel_rfl
  m19 := by kernel_rfl }
open Go.RowKit Go.Sort Go.Lib in
/-- strconv.Itoa: "Itoa is equivalent to FormatInt(int64(i), 10).": i's DECIMAL NUMERAL ('Lib.itoa': a '-' where i is negative, then the digits), FOR EVERY int. The world behind the call: the world before it, new blocks behind the heap (the library's 'var a [24]byte'), draws. (LAID: no walk: one application.) -/
theorem Tryz.strconv_Itoa (n : Int) (h0 : -9223372036854775808 ≤ n) (h1 : n ≤ 9223372036854775807) (w : World) (htab : Lib.TabIs Tryz.prog w "internal/strconv.uint64pow10" .u64 Lib.pow10Tab) :
    Calls Tryz.prog 101 #[.int .i64 n] w fun e w' => e = .returned (.string ⟨(Lib.itoa n).toArray⟩) ∧ ∃ k os, w' = grow (w.drewN k) os := Any.strconv_Itoa Tryz.laysM171 n h0 h1 w htab
def Tryz.lays105_ren : Go.Shelf.Ren := ⟨fun | 105 => 102 | 212 => 111 | 99 => 112 | 165 => 113 | 166 => 103 | 170 => 114 | 169 => 104 | 263 => 117 | 264 => 118 | 206 => 119 | 240 => 115 | 241 => 120 | 276 => 121 | 277 => 126 | n => n, fun | 9 => 9 | 3 => 3 | 4 => 4 | 20 => 20 | 0 => 0 | 46 => 115 | 109 => 116 | 5 => 5 | 72 => 108 | 76 => 112 | 51 => 122 | 146 => 123 | 53 => 67 | 148 => 125 | 70 => 106 | 37 => 22 | 75 => 111 | 127 => 120 | 164 => 127 | 80 => 95 | n => n, fun | n => n⟩
theorem Tryz.lays105 : Go.Proofs.Lays.n105 Tryz.prog Tryz.lays105_ren := {
  mixed := by kernel_rfl
  f99 := Tryz.func112.trans (congrArg some (by kernel_rfl))
  f105 := Tryz.func102.trans (congrArg some (by kernel_rfl))
  f165 := Tryz.func113.trans (congrArg some (by kernel_rfl))
  f166 := Tryz.func103.trans (congrArg some (by kernel_rfl))
  f169 := Tryz.func104.trans (congrArg some (by kernel_rfl))
  f170 := Tryz.func114.trans (congrArg some (by kernel_rfl))
  f206 := Tryz.func119.trans (congrArg some (by kernel_rfl))
  f212 := Tryz.func111.trans (congrArg some (by kernel_rfl))
  f240 := Tryz.func115.trans (congrArg some (by kernel_rfl))
  f241 := Tryz.func120.trans (congrArg some (by kernel_rfl))
  f263 := Tryz.func117.trans (congrArg some (by kernel_rfl))
  f264 := Tryz.func118.trans (congrArg some (by kernel_rfl))
  f276 := Tryz.func121.trans (congrArg some (by kernel_rfl))
  f277 := Tryz.func126.trans (congrArg some (by kernel_rfl))
  t0 := Tryz.underlying0
  a0 := Tryz.isAgg0
  z0 := Tryz.sizeOf0
  v0 := Tryz.zeroValue0
  t3 := Tryz.underlying3
  a3 := Tryz.isAgg3
  z3 := Tryz.sizeOf3
  v3 := Tryz.zeroValue3
  t4 := Tryz.underlying4
  a4 := Tryz.isAgg4
  z4 := Tryz.sizeOf4
  v4 := Tryz.zeroValue4
  t5 := Tryz.underlying5
  a5 := Tryz.isAgg5
  z5 := Tryz.sizeOf5
  v5 := Tryz.zeroValue5
  t9 := Tryz.underlying9
  a9 := Tryz.isAgg9
  z9 := Tryz.sizeOf9
  v9 := Tryz.zeroValue9
  t20 := Tryz.underlying20
  a20 := Tryz.isAgg20
  z20 := Tryz.sizeOf20
  v20 := Tryz.zeroValue20
  t37 := Tryz.underlying22
  a37 := Tryz.isAgg22
  z37 := Tryz.sizeOf22
  v37 := Tryz.zeroValue22
  t46 := Tryz.underlying115
  a46 := Tryz.isAgg115
  z46 := Tryz.sizeOf115
  v46 := Tryz.zeroValue115
  t51 := Tryz.underlying122
  a51 := Tryz.isAgg122
  z51 := Tryz.sizeOf122
  v51 := Tryz.zeroValue122
  t53 := Tryz.underlying67
  a53 := Tryz.isAgg67
  z53 := Tryz.sizeOf67
  v53 := Tryz.zeroValue67
  t70 := Tryz.underlying106
  a70 := Tryz.isAgg106
  z70 := Tryz.sizeOf106
  v70 := Tryz.zeroValue106
  t72 := Tryz.underlying108
  a72 := Tryz.isAgg108
  z72 := Tryz.sizeOf108
  v72 := Tryz.zeroValue108
  t75 := Tryz.underlying111
  a75 := Tryz.isAgg111
  z75 := Tryz.sizeOf111
  v75 := Tryz.zeroValue111
  t76 := Tryz.underlying112
  a76 := Tryz.isAgg112
  z76 := Tryz.sizeOf112
  v76 := Tryz.zeroValue112
  t109 := Tryz.underlying116
  a109 := Tryz.isAgg116
  z109 := Tryz.sizeOf116
  v109 := Tryz.zeroValue116
  t127 := Tryz.underlying120
  a127 := Tryz.isAgg120
  z127 := Tryz.sizeOf120
  v127 := Tryz.zeroValue120
  t146 := Tryz.underlying123
  a146 := Tryz.isAgg123
  z146 := Tryz.sizeOf123
  v146 := Tryz.zeroValue123
  t148 := Tryz.underlying125
  a148 := Tryz.isAgg125
  z148 := Tryz.sizeOf125
  v148 := Tryz.zeroValue125
  t164 := Tryz.underlying127
  a164 := Tryz.isAgg127
  z164 := Tryz.sizeOf127
  v164 := Tryz.zeroValue127 }
theorem Tryz.Builder_Extra_105 : Builder.Extra Tryz.prog Tryz.lays105_ren := {
  sizeBuilder := by kernel_rfl
  liesBuilder := by kernel_rfl
  t5 := Tryz.underlying5
  a5 := Tryz.isAgg5
  z5 := Tryz.sizeOf5
  v5 := Tryz.zeroValue5
  infoByte := by kernel_rfl
  cellsByte := by kernel_rfl
  sizeByte := by kernel_rfl
  neB5 := by decide }
open Go.RowKit Go.Lib in
/-- **strings.Repeat: count ≥ 0, the result within one allocation: count copies of s.** (LAID: no walk: one application.) -/
theorem Tryz.strings_Repeat (s : ByteArray) (c : Nat) (w : World) (hc : c ≤ 9223372036854775807) (hlen : s.size * c ≤ 140737488355328) :
    Calls Tryz.prog 102 #[.string s, .int .i64 c] w fun e w' => e = .returned (.string ⟨(Lib.repeatL s.data.toList c).toArray⟩) ∧ Below w.heap.size w w' := Any.strings_Repeat Tryz.lays105 Tryz.Builder_Extra_105 s c w hc hlen
end Go.Proofs
end

section
namespace Go.Proofs.YtennmjbdmglebaaGreatDoor.Q
open Go.RowKit Go.Proofs.YtennmjbdmglebaaGreatDoor.Q Go.Proofs.YtennmjbdmglebaaGreatDoorW.PrintWords Go.Proofs.YtennmjbdmglebaaGreatDoorW.PrintLast Go.Proofs.YtennmjbdmglebaaGreatDoorW.PrintMore
set_option linter.unusedVariables false
set_option linter.unusedSimpArgs false
/-- The table that strconv reads is laid. -/
def Laid (w : World) : Prop := Lib.TabIs Tryz.prog w "internal/strconv.uint64pow10" .u64 Lib.pow10Tab
theorem gPow : ∃ g, Tryz.prog.globalNamed "internal/strconv.uint64pow10" = some g := Option.isSome_iff_exists.1 (by kernel_rfl)
theorem laid_below {w W : World} (h : Laid w) (hb : Below w.heap.size w W) : Laid W := by
  obtain ⟨g, hg⟩ := gPow
  unfold Laid Lib.TabIs World.var? at h ⊢
  simp only [hg, Option.bind_some] at h ⊢
  have hlt : g < w.heap.size := by
    rcases Nat.lt_or_ge g w.heap.size with h' | h'
    · exact h'
    · simp [Array.getElem?_eq_none h'] at h
  rw [hb.block g hlt]
  exact h
end Go.Proofs.YtennmjbdmglebaaGreatDoor.Q
end

section
namespace Go.Proofs.YtennmjbdmglebaaGreatDoor.Q
open Go.Shelf
open Go.RowKit Go.Proofs.YtennmjbdmglebaaGreatDoor.Q Go.Proofs.YtennmjbdmglebaaGreatDoorW.PrintWords Go.Proofs.YtennmjbdmglebaaGreatDoorW.PrintLast Go.Proofs.YtennmjbdmglebaaGreatDoorW.PrintMore
set_option linter.unusedVariables false
set_option linter.unusedSimpArgs false
attribute [local go_sem] Oper.semAt_some
theorem piece_len (m : Int) (x : Limb) : (piece m x.1).length ≤ 4 := by
  have := itoa_len x.1.2 x.2.1 x.2.2
  unfold piece
  split
  · rw [List.length_append, Lib.repeatL_length]; simp only [List.length_cons, List.length_nil]; omega
  · exact this
theorem pieces_len (m : Int) : ∀ pre : List Limb, (pre.flatMap fun x => piece m x.1).length ≤ 4 * pre.length
  | [] => by simp
  | x :: pre => by
    have h1 := piece_len m x
    have h2 := pieces_len m pre
    rw [List.flatMap_cons, List.length_append, List.length_cons]
    omega
theorem text_round {w W wm w3 : World} {n B0 : Nat} {m : Int} {cs : Array Value} {pre : List Limb} {x : Limb} {s : ByteArray} (hn : n = w.heap.size)
    (tB : Lib.IsBuilderF 108 5 w.heap.size (w.heap.size + 1) (Lib.byteCells (pre.flatMap fun x => piece m x.1)) W) (t1 : CellsAt W w.heap.size 55 cs) (t0 : CellsAt W (w.heap.size + 1 + 1) 55 cs) (tb : Below w.heap.size w W) (hb : Below W.heap.size W wm)
    (hB3 : Lib.BuilderAtF 108 5 w.heap.size (w.heap.size + 1) (.pointer (some ⟨w.heap.size + 1, 0, none⟩)) (Lib.byteCells (pre.flatMap fun x => piece m x.1) ++ Lib.strCells s) w3) (hb3 : Below w.heap.size wm w3) (hk3 : Lib.OthersKept 5 (some (w.heap.size + 1)) wm w3) (hs : s.data.toList = piece m x.1) :
    KeepsFrom B0 W w3 ∧ KpB w.heap.size (w.heap.size + 1 + 1) W w3 ∧ ((Lib.IsBuilderF 108 5 w.heap.size (w.heap.size + 1) (Lib.byteCells ((pre ++ [x]).flatMap fun x => piece m x.1)) w3 ∧ CellsAt w3 w.heap.size 55 cs) ∧ CellsAt w3 (w.heap.size + 1 + 1) 55 cs) ∧ Below w.heap.size w w3 := by
  have tBm := builder_below tB hb
  have hcell : ∃ cs t fz, wm.heap[w.heap.size + 1]? = some (.cells cs t fz) := by
    obtain h | h := tBm <;> (obtain ⟨_, v, hbk, _⟩ := h; exact ⟨_, _, _, hbk⟩)
  have hno : ∀ c fz, (Obj.cells cs 55 (0, 0)) ≠ .cells c 5 fz := fun c fz e => by injection e with _ e2 _; exact absurd e2 (by decide)
  have k1 : CellsAt w3 w.heap.size 55 cs := hk3 _ _ (t1.below hb t1.lt) (by simp) hno
  have k0 : CellsAt w3 (w.heap.size + 1 + 1) 55 cs := hk3 _ _ (t0.below hb t0.lt) (by simp) hno
  have hbW : Below w.heap.size W wm := hb.mono tb.size
  refine ⟨(keepsFrom_of_below hb).trans (keepsFrom_of_others hb3.size hk3 hcell), ⟨hbW.trans hb3, k0.trans t0.symm⟩, ⟨⟨.inr ?_, k1⟩, k0⟩, (tb.trans hbW).trans hb3⟩
  rw [List.flatMap_append, List.flatMap_singleton, Lib.byteCells_append, ← hs]
  exact hB3
set_option maxRecDepth 100000 in
set_option maxHeartbeats 4000000 in
theorem impl_text.calls (A0 : Option Addr) (c0 : Nat) (l0 : List Int) (w : World) (hlaid : Laid w) (hr0 : Kd.C (Kd.int .i64) w A0 l0.length l0) (hc0 : l0.length ≤ c0) (hz : ∀ y ∈ l0, 0 ≤ y ∧ y ≤ 9999) (hlen : l0.length ≤ 1000000) :
    Calls Tryz.prog 88 #[.slice A0 l0.length c0] w fun e w' => e = .returned (.string ⟨(textF l0).toArray⟩) ∧ Below w.heap.size w w' := by
  have HR0 := Aside0.mk hr0
  have HC0 := Aside0.mk hc0
  have HL := Aside0.mk hlen
  clear hr0 hc0 hlen
  by_cases hnil : l0 = []
  · subst hnil
    refine (callsIn_wide (n := 9)).1 ?_
    refine callsIn_of_wp_marks Tryz.func88 rfl trivial ?_ rfl
    simp only [Tryz.ntmps88, List.size_toArray, List.length_cons, List.length_nil, Nat.reduceAdd, Nat.reduceSub, Array.replicate_succ, Array.replicate_zero, List.push_toArray, List.append_toArray, List.nil_append, List.cons_append]
    gi_wp2
    exact ⟨_, results_tmp rfl _ _ _, rfl, (Below.refl _ w).alloc (Nat.le_refl _) _⟩
  · have hn : (l0.length : Int) ≠ 0 := by have := List.length_pos_iff.2 hnil; omega
    have hn1 : ((l0.length : Int) == 0) = false := beq_eq_false_iff_ne.mpr hn
    refine (callsIn_wide (n := 9)).1 ?_
    refine callsIn_of_wp_marks Tryz.func88 rfl trivial ?_ rfl
    simp only [Tryz.ntmps88, List.size_toArray, List.length_cons, List.length_nil, Nat.reduceAdd, Nat.reduceSub, Array.replicate_succ, Array.replicate_zero, List.push_toArray, List.append_toArray, List.nil_append, List.cons_append]
    gi_wp2_with (refine ⟨trivial, ?_⟩; gi_at_call 89; refine (backI_in Fence.wide _ trivial rfl _ _ _ _).mono ?_; rintro e w6 ⟨rfl, hw6⟩)
    have e0 : ((upto (limbAt l0 hz) l0.length).flatMap fun x => piece l0.length x.1) = textF l0 := by
      unfold textF upto
      rw [if_neg hnil, List.flatMap_map, List.flatMap_map]
      rfl
    obtain ⟨W0, hW0⟩ : ∃ W0, ((w.alloc (.cells #[.slice A0 l0.length c0] 55)).alloc (.cells #[.pointer none, .slice none 0 0] 108)).alloc (.cells #[.slice A0 l0.length c0] 55) = W0 := ⟨_, rfl⟩
    have s1 : CellsAt W0 w.heap.size 55 #[.slice A0 l0.length c0] := by rw [← hW0]; exact ((CellsAt.new w _ _).alloc _).alloc _
    have s0 : CellsAt W0 (w.heap.size + 1 + 1) 55 #[.slice A0 l0.length c0] := by rw [← hW0]; have := CellsAt.new ((w.alloc (.cells #[.slice A0 l0.length c0] 55)).alloc (.cells #[.pointer none, .slice none 0 0] 108)) 55 #[.slice A0 l0.length c0]; rwa [World.size_alloc, World.size_alloc] at this
    have sB : Lib.IsBuilderF 108 5 w.heap.size (w.heap.size + 1) (Lib.byteCells []) W0 := by
      have h : CellsAt W0 (w.heap.size + 1) 108 #[.pointer none, .slice none 0 0] := by rw [← hW0]; have := (CellsAt.new (w.alloc (.cells #[.slice A0 l0.length c0] 55)) 108 #[.pointer none, .slice none 0 0]).alloc (.cells #[.slice A0 l0.length c0] 55); rwa [World.size_alloc] at this
      exact .inl ⟨by omega, .slice none 0 0, h, World.ownsRowF_nil _ _ _ _, by simp [Value.ownBlock]⟩
    have hsz : W0.heap.size = w.heap.size + 1 + 1 + 1 := by rw [← hW0]; simp
    have hBW0 : Below w.heap.size w W0 := by rw [← hW0]; exact (((Below.refl _ w).alloc (Nat.le_refl _) _).alloc (by simp) _).alloc (by simp; omega) _
    rw [hW0]
    clear hW0 hw6
    refine wpIn_rangeFunc_ownH rfl (by decide) (gf := 105) (lb := #[.pointer (some ⟨w.heap.size + 1 + 1, 0, none⟩)]) rfl trivial (enters_of Tryz.func105 (by kernel_rfl) rfl)
      (backI_stops (fun x : Limb => x.1) (limbAt l0 hz) Fence.wide _ trivial rfl (by decide) (w.heap.size + 1 + 1) w A0 c0 l0 HC0.out (by have := HL.out; omega) HR0.out (fun _ _ => rfl) W0 hBW0 s0) KpB.trans (kpB_b (by omega) (by omega)) (Below.refl _ _) (fun _ => rfl)
      (fun pre W => ((Lib.IsBuilderF 108 5 w.heap.size (w.heap.size + 1) (Lib.byteCells (pre.flatMap fun x => piece l0.length x.1)) W ∧ CellsAt W w.heap.size 55 #[.slice A0 l0.length c0]) ∧ CellsAt W (w.heap.size + 1 + 1) 55 #[.slice A0 l0.length c0]) ∧ Below w.heap.size w W)
      (fun _ _ _ => False)
      (OwnFrom.and (OwnFrom.and (OwnFrom.and (Own.from (builder_own _ _ _ _ _) _) (Own.from (cellsAt_own _ _ _) _)) (Own.from (cellsAt_own _ _ _) _)) (ownFrom_below (Nat.le_refl _) (by omega)))
      (fun _ _ _ _ _ hs _ _ => hs)
      ⟨⟨⟨sB, s1⟩, s0⟩, hBW0⟩
      (fun x a' _ => a' = { tmps := #[.slice A0 l0.length c0, .pointer (some ⟨w.heap.size, 0, none⟩), .string ⟨#[]⟩, .pointer (some ⟨w.heap.size + 1, 0, none⟩), .int .i64 x.1.1, .int .i64 x.1.2, undef, .slice A0 l0.length c0, .int .i64 l0.length, .bool false, .slice A0 l0.length c0, .func (.func 105) #[] #[.pointer (some ⟨w.heap.size + 1 + 1, 0, none⟩)], .int .i64 x.1.1, .int .i64 x.1.2, undef, undef, undef, undef, undef, undef, undef, undef, undef, undef, undef, undef, undef, undef, undef, undef], defers := [] })
      (fun _ _ _ _ _ _ hs _ _ => hs)
      ?assign ?body ?done ?stop
    case assign =>
      rintro l pre x W K hI hK
      simp only [encI]
      gi_wp2
      exact hK _ _ (KeepsFrom.refl _ _) (KpB.refl _ _ _) hI rfl
    case body =>
      rintro l pre x a' W hl ⟨r, hr⟩ ⟨⟨⟨tB, t1⟩, t0⟩, tb⟩ rfl hlt
      have hx0 := x.2.1
      have hx1 := x.2.2
      have u1 : W.cell? ⟨w.heap.size, 0, none⟩ = some (.slice A0 l0.length c0) := t1.cell 0
      have hl4 := itoa_len x.1.2 hx0 hx1
      gi_wp2
      refine ⟨trivial, ?_⟩
      refine (CallsIn.inRound l (callsIn_wide.2 (Tryz.strconv_Itoa x.1.2 (by omega) (by omega) W (laid_below hlaid tb)))).mono ?_
      rintro e w1 ⟨rfl, k1, os1, hw1⟩
      have hb1 : Below W.heap.size W w1 := by rw [hw1]; exact Go.Lib.below_grow _ _ (Nat.le_refl _) _ _
      have u1' : w1.cell? ⟨w.heap.size, 0, none⟩ = some (.slice A0 l0.length c0) := (t1.below hb1 t1.lt).cell 0
      have ew : wrap64 ((l0.length : Int) - 1) = (l0.length : Int) - 1 := by have := HL.out; unfold wrap64; omega
      clear hw1
      by_cases hlt2 : x.1.1 < (l0.length : Int) - 1
      · have hd : decide (x.1.1 < (l0.length : Int) - 1) = true := decide_eq_true hlt2
        gi_wp2
        refine ⟨trivial, ?_⟩
        have hc : (4 - ((Lib.itoa x.1.2).length : Int)) = ((4 - (Lib.itoa x.1.2).length : Nat) : Int) := by omega
        rw [hc]
        refine (CallsIn.inRound l (callsIn_wide.2 (Tryz.strings_Repeat ⟨#[48]⟩ (4 - (Lib.itoa x.1.2).length) w1 (by omega) (by show 1 * _ ≤ _; omega)))).mono ?_
        rintro e w2 ⟨rfl, hb2⟩
        have hrl := Lib.repeatL_length [48] (4 - (Lib.itoa x.1.2).length)
        have hov : (9223372036854775807 < (Lib.repeatL [48] (4 - (Lib.itoa x.1.2).length)).length + (Lib.itoa x.1.2).length) = False := eq_false (by rw [hrl]; simp only [List.length_cons, List.length_nil]; omega)
        gi_wp2
        refine ⟨trivial, ?_⟩
        refine (CallsIn.inRound l (callsIn_wide.2 (bld_WriteString w.heap.size (w.heap.size + 1) _ _ w2 (builder_below (builder_below tB hb1) hb2) (by rw [Lib.byteCells_length]; have := pieces_len l0.length pre; have := HL.out; rw [ByteArray.size_append]; have e1 : (⟨(Lib.repeatL [48] (4 - (Lib.itoa x.1.2).length)).toArray⟩ : ByteArray).size = (Lib.repeatL [48] (4 - (Lib.itoa x.1.2).length)).length := rfl; have e2 : (⟨(Lib.itoa x.1.2).toArray⟩ : ByteArray).size = (Lib.itoa x.1.2).length := rfl; rw [e1, e2, hrl]; simp only [List.length_cons, List.length_nil]; omega) (by have := tb.size; have := hb1.size; have := hb2.size; omega)))).mono ?_
        rintro e w3 ⟨rfl, hB3, hb3, hk3⟩
        gi_wp2
        exact text_round rfl tB t1 t0 tb (hb1.trans (hb2.mono hb1.size)) hB3 hb3 hk3 (by unfold piece; rw [if_pos hlt2]; simp)
      · have hd : decide (x.1.1 < (l0.length : Int) - 1) = false := decide_eq_false hlt2
        gi_wp2
        refine ⟨trivial, ?_⟩
        refine (CallsIn.inRound l (callsIn_wide.2 (bld_WriteString w.heap.size (w.heap.size + 1) _ _ w1 (builder_below tB hb1) (by rw [Lib.byteCells_length]; have := pieces_len l0.length pre; have := HL.out; have e2 : (⟨(Lib.itoa x.1.2).toArray⟩ : ByteArray).size = (Lib.itoa x.1.2).length := rfl; rw [e2]; omega) (by have := tb.size; have := hb1.size; omega)))).mono ?_
        rintro e w3 ⟨rfl, hB3, hb3, hk3⟩
        gi_wp2
        exact text_round rfl tB t1 t0 tb hb1 hB3 hb3 hk3 (by unfold piece; rw [if_neg (by omega)])
    case done =>
      rintro D ys W hD rfl ⟨⟨⟨tB, t1⟩, t0⟩, tb⟩ hK
      gi_wp2_with (refine ⟨trivial, ?_⟩; gi_at_call 104; refine (callsIn_wide.2 (Tryz.Builder_String_any_k w.heap.size (w.heap.size + 1) _ _ tB (by have := tb.size; omega))).mono ?_; rintro e w7 ⟨rfl, hb7, hb8, hok⟩)
      have hK7 := hok D _ hK (fun e' => by cases e'; obtain h | h := tB <;> (obtain ⟨_, v, hbk, _⟩ := h; rw [hK] at hbk; cases hbk)) (fun _ _ h => by cases h)
      refine ⟨by simp, .inl ⟨_, _, rfl, run_takeDeferred hK7, ?_⟩⟩
      refine ⟨_, results_tmp rfl _ _ _, ?_, (tb.trans hb8).trans (belowK_b (w := w) (Nat.le_refl _) w7 D _ _ (by omega) hK7 rfl rfl)⟩
      rw [← e0]
      rfl
    case stop =>
      rintro D c pre W _ _ h _
      exact h.elim
end Go.Proofs.YtennmjbdmglebaaGreatDoor.Q
end

section
/-! Rf: limbs.text keeps its contract. -/
set_option autoImplicit false
namespace Go.Proofs.YtennmjbdmglebaaGreatDoor.R
open Go.Rf
section
open Go.Proofs.YtennmjbdmglebaaGreatDoor.Q Go.Proofs.YtennmjbdmglebaaGreatDoorW.PrintWords
theorem text_parts (zs : List Int) : ∀ m, m ≤ zs.length → ((Q.upto (Q.bwI zs) m).flatMap (Q.piece (zs.length : Int))) = figs (zs.drop (zs.length - m)) := by
  intro m
  induction m with
  | zero =>
    intro _
    rw [Nat.sub_zero, List.drop_length]
    rfl
  | succ m ih =>
    intro hm
    obtain ⟨j, hj⟩ : ∃ j, j = zs.length - (m + 1) := ⟨_, rfl⟩
    have hj1 : zs.length - m = j + 1 := by omega
    have hjl : j < zs.length := by omega
    have e1 : Q.upto (Q.bwI zs) (m + 1) = Q.upto (Q.bwI zs) m ++ [Q.bwI zs m] := by
      unfold Q.upto
      rw [List.range_succ, List.map_append]
      rfl
    have e2 : Q.bwI zs m = ((j : Int), zs.getD j 0) := by
      unfold Q.bwI
      have : (zs.length : Int) - 1 - (m : Int) = (j : Int) := by omega
      rw [this]
      rfl
    rw [e1, List.flatMap_append, ih (by omega), List.flatMap_singleton, e2, hj1, ← hj]
    unfold Q.piece
    by_cases h : j + 1 < zs.length
    · rw [if_pos (show ((j : Int), zs.getD j 0).1 < (zs.length : Int) - 1 by show (j : Int) < _; omega), figs_drop h]
      rfl
    · have hl : zs.length = j + 1 := by omega
      rw [if_neg (show ¬ ((j : Int), zs.getD j 0).1 < (zs.length : Int) - 1 by show ¬ (j : Int) < _; omega), figs_last hl, List.drop_eq_nil_of_le (by omega)]
      rfl
theorem textF_eq (l : List Int) : (⟨(Q.textF l).toArray⟩ : ByteArray) = textL l := by
  unfold Q.textF
  cases l with
  | nil => rfl
  | cons d l =>
    rw [if_neg (by simp)]
    have := text_parts (d :: l) (d :: l).length (Nat.le_refl _)
    rw [Nat.sub_self, List.drop_zero] at this
    exact congrArg (fun x : List UInt8 => (⟨x.toArray⟩ : ByteArray)) this
theorem reps_ints {w : World} {Z : Nat → Prop} : ∀ {l : List Int} {vs : List Value}, reps (rep w Z (.int .i64)) l vs → vs = l.map (Value.int .i64)
  | [], vs, h => h
  | x :: l, vs, h => by
    obtain ⟨c, d, rfl, h1, h2⟩ := h
    rw [reps_ints h2, show c = [.int .i64 x] from h1]
    rfl
theorem reads_of {w : World} {Z : Nat → Prop} {l : List Int} {v : Value} (h : rep w Z (.sl (.int .i64)) l [v]) (hl : l.length ≤ 1000000) : ∃ A c, v = .slice A l.length c ∧ l.length ≤ c ∧ Kd.C (Kd.int .i64) w A l.length l := by
  obtain ⟨A, c, vs, h1, h2, h3, h4⟩ := h
  obtain rfl := reps_ints h3
  refine ⟨A, c, (List.cons.inj h1).1, h2, rfl, by omega, fun h0 => ?_⟩
  have at' : ∀ j p, l[j]? = some p → ∃ a : Addr, A = some a ∧ w.cell? (a.add j) = some (.int .i64 p) := fun j p hp => by
    obtain ⟨a, ha, _, _, hc⟩ := h4 j (.int .i64 p) (by rw [List.getElem?_map, hp]; rfl)
    exact ⟨a, ha, hc⟩
  obtain ⟨a, ha, _⟩ := at' 0 l[0] (List.getElem?_eq_getElem h0)
  refine ⟨a, ha, fun j p hp => ⟨[.int .i64 p], rfl, rfl, fun i u hu => ?_⟩⟩
  obtain ⟨a', ha', hc⟩ := at' j p hp
  obtain rfl := Option.some.inj (ha.symm.trans ha')
  cases i with
  | zero =>
    obtain rfl := Option.some.inj hu
    have : j * 1 + 0 = j := by omega
    show w.cell? (a.add (j * 1 + 0)) = _
    rw [this]
    exact hc
  | succ i => simp at hu
end
theorem gPow : Tryz.prog.globalNamed "internal/strconv.uint64pow10" = some powG := by kernel_rfl
theorem laid_of {w : World} {Z : Nat → Prop} (h : GL cx w Z) : Q.Laid w := by
  obtain ⟨_, t, fz, hh⟩ := h.2 powG powCells (by show objsR powG = _; unfold objsR; simp)
  unfold Q.Laid Lib.TabIs World.var?
  rw [gPow, Option.bind_some, hh]
  rfl
theorem text_contract (inp : (cx.spec 88).In) (out : (cx.spec 88).Out) (h : textR inp = some out) : Contract cx 88 inp out := by
  obtain ⟨l, _⟩ := inp
  unfold textR at h
  split at h
  · rename_i hok
    obtain rfl := Option.some.inj h
    unfold limbsOk at hok
    simp only [Bool.and_eq_true, List.all_eq_true, decide_eq_true_eq] at hok
    intro w Z args fp hrep _ _ hZ hGL
    match args, hrep with
    | [v], ⟨f, g, hfp, ⟨hv, hf⟩, hg⟩ =>
      obtain rfl : f = [] := hf
      obtain rfl : g = [] := hg
      obtain rfl : fp = [] := hfp
      obtain ⟨A, c, rfl, hc, hK⟩ := reads_of hv hok.2
      refine (Q.impl_text.calls A c l w (laid_of hGL) hK hc hok.1 hok.2).mono ?_
      rintro e w' ⟨rfl, hb⟩
      rw [textF_eq]
      refine ⟨[.string (textL l)], Z, [], [], rfl, ⟨[], [], rfl, ⟨rfl, rfl⟩, rfl⟩, ⟨[], [], rfl, rfl, rfl⟩, by simp, (fun b hb => by cases hb), (fun b hb => hb), fun b hz => ⟨Nat.lt_of_lt_of_le (hZ b hz) hb.size, .inl hz⟩, ⟨hb.os, hb.tape, hb.output, hb.size, fun b hlt _ => hb.block b hlt, fun b o ho _ => (hb.block b (Array.getElem?_eq_some_iff.1 ho).1).trans ho⟩⟩
  · cases h
theorem told (k f : Nat) (inp : (cx.spec f).In) (out : (cx.spec f).Out) (h : callF cx k f inp = some out) : Go.Rf.Contract cx f inp out := (Go.Rf.run_ok good (fun f g inp out h h2 => by
  have h : extR f = some g := h
  by_cases e : f = 88
  · subst e
    obtain rfl := Option.some.inj h
    exact text_contract inp out h2
  · exfalso
    unfold extR at h
    split at h
    · exact e rfl
    · cases h) k).1 f inp out h
end Go.Proofs.YtennmjbdmglebaaGreatDoor.R
end

section
/-! Rf: the row of a law, out of its pure statement. -/
set_option autoImplicit false
namespace Go.Proofs.YtennmjbdmglebaaGreatDoor.fnDecDiv
open Go.Rf Go.Proofs.YtennmjbdmglebaaGreatDoor.R Go.ChangeShapes Go.WideShapes Go.ChangeAt Go.RowKit
set_option linter.unusedVariables false
theorem walk (P : PureFnDecDiv) (w : World) (hGL : GL cx w (Here w)) (v0 : Value) (y0 : (vSh ⟨false, [.sl (.int .u8)], [], 24⟩).D) (h0 : ShRep w (Here w) (vSh ⟨false, [.sl (.int .u8)], [], 24⟩) y0 v0 []) (w0 : shWf (vSh ⟨false, [.sl (.int .u8)], [], 24⟩) y0) :
    Calls Tryz.prog 8 #[v0] w fun e w' => e = .returned (.bool true) ∧ Below w.heap.size w w' := by
  obtain ⟨k, p, h⟩ := P y0 w0
  have h' : callF cx k 8 (y0, ()) = some ((true, ()), p) := h
  have hr : ShsRep w (Here w) (cx.spec 8).ps (y0, ()) [v0] [] := ⟨[], [], rfl, h0, rfl⟩
  exact law_calls (told k 8 _ _ h') hr hGL (fun w' Z vs fp h => res_bool h)
theorem own : ownKnob Tryz.prog.godebug = none := by kernel_rfl
theorem laidOut : laidOutB Tryz.prog = true := by kernel_rfl
/-- what the row lists -/
def laidL : List (String × DataW Unit) := [("math/bits.deBruijn32tab", Rows.laid_math_bits_deBruijn32tab), ("math/bits.deBruijn64tab", Rows.laid_math_bits_deBruijn64tab), ("internal/strconv.uint64pow10", Rows.laid_internal_strconv_uint64pow10)]
theorem pow_data : (Rows.laid_internal_strconv_uint64pow10 : DataW Unit) = Lib.tabData .u64 Lib.pow10Tab := by kernel_rfl
theorem gl_of {W : World} (h : laidMetH Tryz.prog laidL W) : GL cx W (Here W) := by
  unfold laidL at h
  rw [MakeChecks.laidMetH_plain _ _ _ (by kernel_rfl), pow_data] at h
  have ht := Lib.tabIs_of_head (n := 20) (t := 136) (e := 67) gPow (by kernel_rfl) (by kernel_rfl) (by kernel_rfl) (by kernel_rfl) (by kernel_rfl) (laidMet.tail (laidMet.tail h))
  unfold Lib.TabIs World.var? at ht
  rw [gPow, Option.bind_some] at ht
  refine ⟨(fun _ _ h => by cases h), fun g cs hg => ?_⟩
  have hg : objsR g = some cs := hg
  unfold objsR at hg
  split at hg
  · rename_i e
    subst e
    obtain rfl := Option.some.inj hg
    split at ht
    · rename_i cs t fz hh
      obtain rfl := Option.some.inj ht
      exact ⟨(Array.getElem?_eq_some_iff.1 hh).1, _, _, hh⟩
    · cases ht
  · cases hg
theorem door_met (os : Os) (args : Array Value) : laidMetH Tryz.prog laidL ((World.doorLaid Tryz.prog 400 os).forCall (fun _ _ => 0) ⟨#[], args, []⟩).memory :=
  laidMetH_of_parts3 (fuel := 8) (laidMet_of_run' 8 (by kernel_rfl) (by kernel_rfl)) (by kernel_rfl) (by kernel_rfl)
set_option maxRecDepth 100000 in
theorem lifted (P : PureFnDecDiv) (os : Os) (started : os.Started) (H : Type) (enc : TypeId × Value → H) :
    ReturnsInHanded {} Tryz.checked os 8 .any (fun w args => (Rows.fnDecDivSpec.pre enc Tryz.prog Tryz.f8 [] false w args ∧ laidMetH Tryz.prog laidL w) ∧ sizedMet enc Tryz.prog Tryz.f8 (OpenSpec.ofChange Rows.fnDecDivSpec) false w args)
      (Rows.fnDecDivSpec.post enc Tryz.prog Tryz.f8 false true false false) := by
  refine returnsInHanded_of_change_and (C := Tryz.checked) (X := fun w _ => laidMetH Tryz.prog laidL w) (fun _ _ _ hh h => h.of_heap hh) own started (by kernel_rfl) Tryz.func8
    (ChangeSpec.witness_shaped (enc := enc) (C := Tryz.checked) (os := os) (X := fun w _ => laidMetH Tryz.prog laidL w) false (World.doorLaid Tryz.prog 400 os) #[.slice none 0 0] 12 rfl (World.shaped_of_RefB (by kernel_rfl) (by kernel_rfl)) (by kernel_rfl) (by kernel_rfl) (by kernel_rfl) (door_met os _)) ?_
  intro W base args ds gs before hval0 hW _ _ hL _
  have hGL := gl_of hL
  have hval : ∀ (j : Nat) t v, Tryz.f8.params[j]? = some t → args[j]? = some v → Value.okWide Tryz.prog W .any base t v := hval0
  have hW' := hW
  obtain ⟨p, q, hA0, hV, rfl, hfz, hnd⟩ := hW
  have hA : DataW.TrodAll enc Tryz.prog W 0 (fun _ => true) true Tryz.f8.params.toList args.toList ds p := hA0
  rw [Tryz.params8] at hA hval
  obtain ⟨v0, vs0, d0, ds0, p0, q0, hargs, rfl, rfl, h0, r0⟩ := trodAll_cons hA
  obtain ⟨rfl, rfl, rfl⟩ := trodAll_nil r0
  obtain rfl : args = #[v0] := by cases args; simp_all
  obtain ⟨rfl, rfl⟩ := trodVars_none hV
  have k0 := h0
  have lt0 : ∀ x ∈ p0, x.block < W.heap.size := by obtain ⟨m, hm⟩ := k0; exact DataW.trod_lt m _ _ _ hm
  obtain ⟨y0, hy0, w0⟩ := opnArg_ok (tab := tabs.ty) (P := Tryz.prog) (t := 22) (i := ⟨false, [.sl (.int .u8)], [], 24⟩) (by kernel_rfl) (hval 0 22 v0 rfl rfl) h0
  clear hA0 hval0
  refine (walk P W hGL v0 y0 hy0 w0).mono fun e W' ⟨he, bel⟩ => ?_
  subst he
  exact ⟨_, rfl, _, _, _, [], _, [], hW', trodAll_mk1 (shut_bool Tryz.underlying4 _), (trodAll_cons_mk (Below.trod laidOut (by kernel_rfl) (of_decide_eq_true (by kernel_rfl)) k0 bel lt0) trodAll_mk0), rfl, bel.frame _, fun h => by cases h⟩
theorem over (P : PureFnDecDiv) : Rows.fnDecDivRow.holds Tryz.pinned (OpenSpec.ofChange Rows.fnDecDivSpec) :=
  OpenClaim.holds_of_wide 8 Tryz.f8 rfl rfl rfl rfl rfl rfl rfl ⟨rfl, rfl, rfl, rfl, rfl⟩ rfl rfl rfl rfl rfl (by kernel_rfl) Tryz.func8 (by kernel_rfl)
    (of_decide_eq_true (by kernel_rfl)) (by unfold Func.isWrapper; first | (rw [if_pos (by decide +kernel)]; kernel_rfl) | (rw [if_neg (by decide +kernel)]; exact ⟨rfl, rfl⟩))
    (fun os started H enc _ => lifted P os started H enc)
/-- THE TIED CARD. -/
theorem card (P : PureFnDecDiv) : Rows.FnDecDivCardSaid :=
  Claim7.holds_tied_plain_at .later [] [.data, .data, .data] true (true, "50485acef5e2142a34264d94b90bf58d554d6e4386ee5ca529c12bbd0c1eb65e") false
    (over P) (fun _ h => by cases h) (by kernel_rfl) (fun _ h => by cases h) fnDecDiv_row_tie rfl ⟨rfl, rfl⟩ (by kernel_rfl) rfl
    (fun f fn hf hfn => by
      obtain rfl : f = 8 := Option.some.inj ((show Tryz.prog.funcNamed "loop.example/jetton/laws.FnDecDiv" = some 8 by kernel_rfl).symm.trans hf) |>.symm
      obtain rfl : fn = Tryz.f8 := (Option.some.inj (Tryz.func8.symm.trans hfn)).symm
      exact ⟨by kernel_rfl, fun j t ht => by
        rw [Tryz.params8] at ht
        have hm : t ∈ [22] := by simpa using Array.mem_of_getElem? ht
        have hall : ([22].all fun u => !Tryz.prog.wantsStandIn u) = true := by kernel_rfl
        exact (show Tryz.prog.wantsStandIn t = false by simpa using List.all_eq_true.1 hall t hm)⟩)
    (by kernel_rfl)
end Go.Proofs.YtennmjbdmglebaaGreatDoor.fnDecDiv
end

section
/-! Rf, limbs: noughts at the end; which is greater. -/
set_option autoImplicit false
namespace Go.Proofs.YtennmjbdmglebaaGreatDoor.R
open Go.Rf

theorem trimL : ∀ (n : Nat) (l : List Int), l.length = n → n ≤ 1000000 → InR l → Ev (fun k => F65c1 k l) ((digs (VI l).toNat, ()), ((), ())) := by
  intro n
  induction n with
  | zero =>
    intro l hl _ _
    obtain rfl := List.eq_nil_of_length_eq_zero hl
    refine Ev.step 1 (fun k => F65c1_eq k _) ?_
    simp only [List.length_nil, Int.ofNat_zero, gt_iff_lt, Int.lt_irrefl, decide_false, Bool.false_eq_true, if_false, VI, Int.toNat_zero, digs_zero]
    exact Ev.now _
  | succ n ih =>
    intro l hl hn hr
    have hlt : n < l.length := by omega
    refine Ev.step 1 (fun k => F65c1_eq k _) ?_
    simp only [gt_true (show 0 < l.length by omega), pred_len hl (by omega), ge0, if_true, Int.toNat_natCast, getI_of hlt, Option.bind_some, le_true (show n ≤ l.length by omega), Bool.and_self, slices0]
    cases h0 : (l.getD n 0 == 0) with
    | true =>
      have h0 : l.getD n 0 = 0 := by simpa using h0
      have hv : VI (l.take n) = VI l := VI_take_zero (fun i h1 h2 => by
        have : i = n := by omega
        rw [this, h0])
      have := ih (l.take n) (by rw [List.length_take]; omega) (by omega) (hr.take n)
      rw [hv] at this
      simpa only [if_true] using this
    | false =>
      have h0 : l.getD n 0 ≠ 0 := by simpa using h0
      rw [digs_VI hr (.inr (by rw [hl]; exact h0))]
      simp only [Bool.false_eq_true, if_false]
      exact Ev.now _
theorem trim_ev {l : List Int} (hr : InR l) (hl : l.length ≤ 1000000) : Ev (fun k => F65 k l) ((digs (VI l).toNat, ()), ((), ())) := Ev.step 2 (fun k => F65_eq k l) (trimL l.length l rfl hl hr)
theorem l1Trim_ev {l : List Int} (hr : InR l) (hl : l.length ≤ 1000000) : Ev (fun k => F98 k l) ((digs (VI l).toNat, ()), ((), ())) := by
  have key : ∀ n, n ≤ l.length → (∀ i, n ≤ i → i < l.length → l.getD i 0 = 0) → Ev (fun k => F98c2 k l (n : Int)) ((digs (VI l).toNat, ()), ((), ())) := by
    intro n
    induction n with
    | zero =>
      intro _ h0
      have hs := trim_upto (Nat.zero_le _) h0 (.inl rfl) hr
      refine Ev.step 1 (fun k => F98c2_eq k _ _) ?_
      have hc : decide (([] : List Int).length + (digs (VI l).toNat).length ≤ 17592186044416) = true := by rw [← hs]; simp
      have h1 : decide (((0 : Nat) : Int) > 0) = false := by decide
      simp only [h1, ge0, le_true (Nat.zero_le l.length), Bool.and_self, Bool.false_eq_true, if_false, if_true, Int.toNat_natCast, slices0, hc, List.nil_append, hs]
      exact Ev.now _
    | succ n ih =>
      intro hn h0
      have hlt : n < l.length := by omega
      have h1 : decide (((n + 1 : Nat) : Int) > 0) = true := decide_eq_true (by omega)
      have h2 : IntKind.i64.wrap (((n + 1 : Nat) : Int) - 1) = (n : Int) := by rw [wrap64 (by omega) (by omega)]; omega
      refine Ev.step 1 (fun k => F98c2_eq k _ _) ?_
      simp only [h1, h2, ge0, if_true, Int.toNat_natCast, getI_of hlt, Option.bind_some]
      cases hz : (l.getD n 0 == 0) with
      | true =>
        simp only [if_true]
        refine ih (by omega) fun i h3 h4 => ?_
        rcases Nat.eq_or_lt_of_le h3 with rfl | h5
        · simpa using hz
        · exact h0 i h5 h4
      | false =>
        have hz : l.getD n 0 ≠ 0 := by simpa using hz
        have hs := trim_upto hn h0 (.inr (by simpa using hz)) hr
        have hc : decide (([] : List Int).length + (digs (VI l).toNat).length ≤ 17592186044416) = true := by rw [← hs]; simp; omega
        simp only [Bool.false_eq_true, if_false, le_true hn, Bool.and_self, if_true, slices0, hc, List.nil_append, hs]
        exact Ev.now _
  exact Ev.step 2 (fun k => F98_eq k l) (key l.length (Nat.le_refl _) (fun i h1 h2 => by omega))
theorem digs_len_le {n : Nat} {m : Nat} (h : n < 10000 ^ m) : (digs n).length ≤ m := by
  induction m generalizing n with
  | zero =>
    have : n = 0 := by simp at h; omega
    rw [this, digs_zero]
    simp
  | succ m ih =>
    by_cases h0 : n = 0
    · rw [h0, digs_zero]
      simp
    · rw [digs_pos h0, List.length_cons]
      have := ih (n := n / 10000) (by rw [Nat.pow_succ] at h; omega)
      omega
section
variable {a b : List Int} {A B : Nat}
theorem l1CmpAbs_ev (ha : InR a) (hb : InR b) (ta : Trim a) (tb : Trim b) (hA : VI a = (A : Int)) (hB : VI b = (B : Int)) (la : a.length ≤ 1000000) : Ev (fun k => F93 k a b) ((cmpI A B, ()), ((), (), ())) := by
  refine Ev.step 2 (fun k => F93_eq k a b) ?_
  by_cases hl : a.length = b.length
  · have h0 : ((a.length : Int) != (b.length : Int)) = false := by simp [hl]
    simp only [h0, Bool.false_eq_true, if_false]
    have key : ∀ m, m ≤ a.length → (∀ j, m ≤ j → j < a.length → a.getD j 0 = b.getD j 0) → Ev (fun k => F93c6 k a b ((m : Int) - 1)) ((cmpI A B, ()), ((), (), ())) := by
      intro m
      induction m with
      | zero =>
        intro _ h
        have := ext_getD hl (fun j hj => h j (by omega) hj)
        have hAB : A = B := by rw [this, hB] at hA; omega
        rw [hAB, cmpI_eq]
        exact Ev.step 1 (fun k => F93c6_eq k _ _ _) (Ev.now _)
      | succ m ih =>
        intro hm h
        have e : ((m + 1 : Nat) : Int) - 1 = (m : Int) := by omega
        have hma : m < a.length := by omega
        have hmb : m < b.length := by omega
        have hge : decide ((m : Int) ≥ 0) = true := by simp
        have r1 := ha.at hma
        have r2 := hb.at hmb
        rw [e]
        refine Ev.step 1 (fun k => F93c6_eq k _ _ _) ?_
        simp only [hge, if_true, Int.toNat_natCast, getI_of hma, getI_of hmb, Option.bind_some]
        rcases Int.lt_trichotomy (a.getD m 0) (b.getD m 0) with hlt | heq | hgt
        · have := VI_first_lt hl hma (fun j h1 h2 => h j h1 h2) hlt ha hb
          rw [cmpI_lt (by omega)]
          simp only [hlt, decide_true, if_true]
          exact Ev.now _
        · have n1 : ¬ a.getD m 0 < b.getD m 0 := by omega
          have n2 : ¬ a.getD m 0 > b.getD m 0 := by omega
          simp only [n1, n2, decide_false, Bool.false_eq_true, if_false]
          rw [wrap64 (by omega) (by omega)]
          refine ih (by omega) fun j h1 h2 => ?_
          rcases Nat.eq_or_lt_of_le h1 with rfl | h3
          · exact heq
          · exact h j h3 h2
        · have := VI_first_lt hl.symm hmb (fun j h1 h2 => (h j h1 (by omega)).symm) hgt hb ha
          rw [cmpI_gt (by omega)]
          have n1 : ¬ a.getD m 0 < b.getD m 0 := by omega
          have n2 : a.getD m 0 > b.getD m 0 := by omega
          simp only [n1, n2, decide_false, decide_true, Bool.false_eq_true, if_false, if_true]
          exact Ev.now _
    rw [wrap64 (by omega) (by omega)]
    exact key a.length (Nat.le_refl _) (fun j h1 h2 => by omega)
  · have h0 : ((a.length : Int) != (b.length : Int)) = true := by simp; omega
    simp only [h0, if_true]
    rcases Nat.lt_or_ge a.length b.length with h1 | h1
    · have := VI_len_lt ha hb tb h1
      rw [cmpI_lt (by omega)]
      simp only [lt_true h1, if_true]
      exact Ev.now _
    · have := VI_len_lt hb ha ta (by omega)
      rw [cmpI_gt (by omega)]
      simp only [lt_false h1, Bool.false_eq_true, if_false]
      exact Ev.now _
theorem clamp_neg {D : Int} (h : D < 0) : (if (if D < 1 then D else 1) > -1 then (if D < 1 then D else 1) else -1) = -1 := by
  rw [if_pos (show D < 1 by omega), if_neg (by omega)]
theorem clamp_pos {D : Int} (h : 0 < D) : (if (if D < 1 then D else 1) > -1 then (if D < 1 then D else 1) else -1) = 1 := by
  rw [if_neg (show ¬ D < 1 by omega), if_pos (by omega)]
theorem cmp_ev (ha : InR a) (hb : InR b) (ta : Trim a) (tb : Trim b) (hA : VI a = (A : Int)) (hB : VI b = (B : Int)) (la : a.length ≤ 1000000) (lb : b.length ≤ 1000000) : Ev (fun k => F68 k a b) ((cmpI A B, ()), ((), (), ())) := by
  refine Ev.step 2 (fun k => F68_eq k a b) ?_
  by_cases hl : a.length = b.length
  · have h0 : ((a.length : Int) != (b.length : Int)) = false := by simp [hl]
    simp only [h0, Bool.false_eq_true, if_false]
    have key : ∀ m, m ≤ a.length → (∀ j, m ≤ j → j < a.length → a.getD j 0 = b.getD j 0) → Ev (fun k => F68c4 k a b ((m : Int) - 1)) ((cmpI A B, ()), ((), (), ())) := by
      intro m
      induction m with
      | zero =>
        intro _ h
        have := ext_getD hl (fun j hj => h j (by omega) hj)
        have hAB : A = B := by rw [this, hB] at hA; omega
        rw [hAB, cmpI_eq]
        exact Ev.step 1 (fun k => F68c4_eq k _ _ _) (Ev.now _)
      | succ m ih =>
        intro hm h
        have e : ((m + 1 : Nat) : Int) - 1 = (m : Int) := by omega
        have hma : m < a.length := by omega
        have hmb : m < b.length := by omega
        have hge : decide ((m : Int) ≥ 0) = true := by simp
        have r1 := ha.at hma
        have r2 := hb.at hmb
        rw [e]
        refine Ev.step 1 (fun k => F68c4_eq k _ _ _) ?_
        simp only [hge, if_true, Int.toNat_natCast, getI_of hma, getI_of hmb, Option.bind_some]
        rcases Int.lt_trichotomy (a.getD m 0) (b.getD m 0) with hlt | heq | hgt
        · have := VI_first_lt hl hma (fun j h1 h2 => h j h1 h2) hlt ha hb
          have hne : (a.getD m 0 != b.getD m 0) = true := bne_iff_ne.2 (by omega)
          rw [cmpI_lt (by omega), wrap64 (n := a.getD m 0 - b.getD m 0) (by omega) (by omega)]
          simp only [hne, if_true, clamp_neg (show a.getD m 0 - b.getD m 0 < 0 by omega)]
          exact Ev.now _
        · have hne : (a.getD m 0 != b.getD m 0) = false := by rw [heq, bne_self_eq_false]
          simp only [hne, Bool.false_eq_true, if_false]
          rw [wrap64 (by omega) (by omega)]
          refine ih (by omega) fun j h1 h2 => ?_
          rcases Nat.eq_or_lt_of_le h1 with rfl | h3
          · exact heq
          · exact h j h3 h2
        · have := VI_first_lt hl.symm hmb (fun j h1 h2 => (h j h1 (by omega)).symm) hgt hb ha
          have hne : (a.getD m 0 != b.getD m 0) = true := bne_iff_ne.2 (by omega)
          rw [cmpI_gt (by omega), wrap64 (n := a.getD m 0 - b.getD m 0) (by omega) (by omega)]
          simp only [hne, if_true, clamp_pos (show 0 < a.getD m 0 - b.getD m 0 by omega)]
          exact Ev.now _
    rw [wrap64 (by omega) (by omega)]
    exact key a.length (Nat.le_refl _) (fun j h1 h2 => by omega)
  · have h0 : ((a.length : Int) != (b.length : Int)) = true := by simp; omega
    simp only [h0, if_true]
    rw [wrap64 (n := (a.length : Int) - b.length) (by omega) (by omega)]
    rcases Nat.lt_or_ge a.length b.length with h1 | h1
    · have := VI_len_lt ha hb tb h1
      rw [cmpI_lt (by omega), clamp_neg (by omega)]
      exact Ev.now _
    · have := VI_len_lt hb ha ta (by omega)
      rw [cmpI_gt (by omega), clamp_pos (by omega)]
      exact Ev.now _
end
end Go.Proofs.YtennmjbdmglebaaGreatDoor.R
end

section
/-! Rf, limbs: sums and differences. -/
set_option autoImplicit false
namespace Go.Proofs.YtennmjbdmglebaaGreatDoor.R
open Go.Rf
section
variable {a b : List Int} {A B : Nat}
/-- the carry runs up -/
theorem addC {M : Nat} (hM : M ≤ 200001) {S : Int} : ∀ (m i : Nat) (x : List Int), i + m = M → x.length = M + 1 → VI x = S → (∀ j, j < i → 0 ≤ x.getD j 0 ∧ x.getD j 0 ≤ 9999) → (∀ j, i < j → j < M → 0 ≤ x.getD j 0 ∧ x.getD j 0 ≤ 19998) →
    (0 ≤ x.getD i 0 ∧ x.getD i 0 ≤ 19999) → (i < M → x.getD M 0 = 0) → (i = M → x.getD M 0 ≤ 1) → Ev (fun k => F67c9 k x (M : Int) (i : Int)) ((digs S.toNat, ()), ((), (), ())) := by
  intro m
  induction m with
  | zero =>
    intro i x hi hx hS h1 h2 h3 h4 h5
    have hiM : i = M := by omega
    subst hiM
    refine Ev.step 1 (fun k => F67c9_eq k _ _ _) ?_
    simp only [lt_false (Nat.le_refl i), Bool.false_eq_true, if_false]
    have hr : InR x := InR.of fun j hj => by
      rcases Nat.eq_or_lt_of_le (show j ≤ i by omega) with rfl | h6
      · have := h5 rfl
        omega
      · exact h1 j h6
    have := trim_ev hr (by omega)
    rw [hS] at this
    exact Ev.bind this (Ev.now _)
  | succ m ih =>
    intro i x hi hx hS h1 h2 h3 h4 _
    have hiM : i < M := by omega
    have l0 : i < x.length := by omega
    have l1 : i + 1 < x.length := by omega
    have r1 : 0 ≤ x.getD (i + 1) 0 ∧ x.getD (i + 1) 0 ≤ 19998 := by
      rcases Nat.eq_or_lt_of_le (show i + 1 ≤ M by omega) with h6 | h6
      · rw [h6, h4 hiM]
        omega
      · exact h2 (i + 1) (by omega) h6
    have hq : 0 ≤ x.getD i 0 / 10000 ∧ x.getD i 0 / 10000 ≤ 1 := by omega
    have hset : i < (x.set (i + 1) (x.getD (i + 1) 0 + x.getD i 0 / 10000)).length := by rw [List.length_set]; omega
    have hget : (x.set (i + 1) (x.getD (i + 1) 0 + x.getD i 0 / 10000)).getD i 0 = x.getD i 0 := by rw [getI_set l1, if_neg (by omega)]
    have hS' : VI ((x.set (i + 1) (x.getD (i + 1) 0 + x.getD i 0 / 10000)).set i (x.getD i 0 % 10000)) = S := by
      rw [VI_carry l1 rfl (by omega), hS]
    have hgets : ∀ j, ((x.set (i + 1) (x.getD (i + 1) 0 + x.getD i 0 / 10000)).set i (x.getD i 0 % 10000)).getD j 0 = if j = i then x.getD i 0 % 10000 else if j = i + 1 then x.getD (i + 1) 0 + x.getD i 0 / 10000 else x.getD j 0 := fun j => getI_set2 l1
    refine Ev.step 1 (fun k => F67c9_eq k _ _ _) ?_
    have w1 : IntKind.i64.wrap (x.getD i 0 / 10000) = x.getD i 0 / 10000 := wrap64 (by omega) (by omega)
    have w2 : IntKind.i64.wrap (x.getD (i + 1) 0 + x.getD i 0 / 10000) = x.getD (i + 1) 0 + x.getD i 0 / 10000 := wrap64 (by omega) (by omega)
    simp only [lt_true hiM, wrap_succ (show i < 9223372036854775807 by omega), ge0, lt_true l1, lt_true l0, Bool.and_self, if_true, Int.toNat_natCast, getI_of l1, getI_of l0, Option.bind_some, tdiv_pos h3.1, w1, w2, lt_true hset, getI_of hset, hget, tmod_pos h3.1]
    refine ih (i + 1) _ (by omega) (by simpa using hx) hS' (fun j hj => ?_) (fun j hj hj2 => ?_) ?_ (fun hj => ?_) (fun hj => ?_)
    · rw [hgets]
      split
      · omega
      · rw [if_neg (by omega)]
        exact h1 j (by omega)
    · rw [hgets, if_neg (by omega), if_neg (by omega)]
      exact h2 j (by omega) hj2
    · rw [hgets, if_neg (by omega), if_pos rfl]
      omega
    · rw [hgets, if_neg (by omega), if_neg (by omega)]
      exact h4 hiM
    · rw [hgets, if_neg (by omega), if_pos hj.symm]
      have : x.getD (i + 1) 0 = 0 := by rw [hj]; exact h4 hiM
      omega
theorem add_ev (ha : InR a) (hb : InR b) (la : a.length ≤ 100000) (lb : b.length ≤ 100000) : Ev (fun k => F67 k a b) ((digs (VI a + VI b).toNat, ()), ((), (), ())) := by
  obtain ⟨M, hM⟩ : ∃ M, M = max a.length b.length := ⟨_, rfl⟩
  have h1 : (if (b.length : Int) > (a.length : Int) then (b.length : Int) else (a.length : Int)) = (M : Int) := by
    split <;> omega
  have h2 : IntKind.i64.wrap ((M : Int) + 1) = ((M + 1 : Nat) : Int) := wrap_succ (by omega)
  have hc : decide (((M + 1 : Nat) : Int) ≤ (17592186044416 : Int)) = true := decide_eq_true (by omega)
  have hinit : a.take (List.replicate (M + 1) (0 : Int)).length ++ (List.replicate (M + 1) (0 : Int)).drop a.length = a ++ List.replicate (M + 1 - a.length) 0 := by
    rw [List.length_replicate, List.take_of_length_le (by omega), List.drop_replicate]
  refine Ev.step 2 (fun k => F67_eq k a b) ?_
  simp only [h1, h2, ge0, le_true (Nat.le_refl (M + 1)), hc, Bool.and_self, if_true, Int.toNat_natCast, hinit]
  have key : ∀ (m i : Nat) (x : List Int), i + m = b.length → x.length = M + 1 → VI x = VI a + VI (b.take i) → (∀ j, j < i → 0 ≤ x.getD j 0 ∧ x.getD j 0 ≤ 19998) → (∀ j, i ≤ j → j < M → 0 ≤ x.getD j 0 ∧ x.getD j 0 ≤ 9999) → x.getD M 0 = 0 →
      Ev (fun k => F67c4 k x b (b.length : Int) (i : Int)) ((digs (VI a + VI b).toNat, ()), ((), (), ())) := by
    intro m
    induction m with
    | zero =>
      intro i x hi hx hV g1 g2 g3
      have hib : i = b.length := by omega
      subst hib
      refine Ev.step 1 (fun k => F67c4_eq k _ _ _ _) ?_
      have hl : IntKind.i64.wrap ((x.length : Int) - 1) = (M : Int) := pred_len hx (by omega)
      simp only [lt_false (Nat.le_refl b.length), Bool.false_eq_true, if_false, hl]
      rw [VI_take_all] at hV
      have hall : ∀ j, j < M → 0 ≤ x.getD j 0 ∧ x.getD j 0 ≤ 19998 := fun j hj => by
        rcases Nat.lt_or_ge j b.length with h | h
        · exact g1 j h
        · have := g2 j h hj
          omega
      refine addC (by omega) M 0 x (by omega) hx hV (fun j hj => by omega) (fun j _ hj => hall j hj) ?_ (fun _ => g3) (fun _ => by omega)
      rcases Nat.eq_zero_or_pos M with h | h
      · rw [h] at g3
        omega
      · have := hall 0 h
        omega
    | succ m ih =>
      intro i x hi hx hV g1 g2 g3
      have hib : i < b.length := by omega
      have l0 : i < x.length := by omega
      have rb := hb.at hib
      have rx := g2 i (Nat.le_refl _) (by omega)
      have w1 : IntKind.i64.wrap (x.getD i 0 + b.getD i 0) = x.getD i 0 + b.getD i 0 := wrap64 (by omega) (by omega)
      refine Ev.step 1 (fun k => F67c4_eq k _ _ _ _) ?_
      simp only [lt_true hib, lt_true l0, ge0, Bool.and_self, if_true, Int.toNat_natCast, getI_of hib, getI_of l0, Option.bind_some, w1, wrap_succ (show i < 9223372036854775807 by omega)]
      refine ih (i + 1) _ (by omega) (by simpa using hx) ?_ (fun j hj => ?_) (fun j hj hj2 => ?_) ?_
      · rw [VI_set l0, VI_take_succ hib, hV]
        grind
      · rw [getI_set l0]
        split
        · omega
        · exact g1 j (by omega)
      · rw [getI_set l0, if_neg (by omega)]
        exact g2 j (by omega) hj2
      · rw [getI_set l0, if_neg (by omega)]
        exact g3
  have hpad : ∀ j, (a ++ List.replicate (M + 1 - a.length) (0 : Int)).getD j 0 = a.getD j 0 := fun j => by
    rw [List.getD_eq_getElem?_getD, List.getD_eq_getElem?_getD]
    rcases Nat.lt_or_ge j a.length with h | h
    · rw [List.getElem?_append_left h]
    · rw [List.getElem?_append_right h, List.getElem?_eq_none h, List.getElem?_replicate]
      split <;> rfl
  have := key b.length 0 (a ++ List.replicate (M + 1 - a.length) 0) (by omega) (by simp; omega) (by rw [VI_pad]; simp [VI]) (fun j hj => by omega) (fun j _ hj => by
    rw [hpad]
    rcases Nat.lt_or_ge j a.length with h | h
    · exact ha.at h
    · rw [List.getD_eq_getElem?_getD, List.getElem?_eq_none h]
      exact ⟨Int.le_refl _, by decide⟩) (by rw [hpad, List.getD_eq_getElem?_getD, List.getElem?_eq_none (by omega)]; rfl)
  exact this
theorem clone_ev (l : List Int) (h : l.length ≤ 1000000) : Ev (fun k => F95 k l) ((l, ()), ((), ())) := by
  refine Ev.step 2 (fun k => F95_eq k l) ?_
  have hc : decide (([] : List Int).length + l.length ≤ 17592186044416) = true := decide_eq_true (by simp; omega)
  simp only [hc, if_true, List.nil_append]
  cases l with
  | nil =>
    rw [bothK_same]
    exact Ev.now _
  | cons x l =>
    have : emptyL (x :: l) = false := rfl
    rw [this, bothK_false]
    exact Ev.now _
theorem VI_last {l : List Int} {n : Nat} (h : l.length = n + 1) : VI l = VI (l.take n) + l.getD n 0 * 10000 ^ n := by
  rw [← VI_take_succ (by omega), ← h, List.take_length]
/-- the borrow runs up -/
theorem subC {M : Nat} (hM : M ≤ 200001) {S : Int} (hS0 : 0 ≤ S) : ∀ (m i : Nat) (x : List Int), i + m = M → x.length = M → VI x = S → (∀ j, j < i → 0 ≤ x.getD j 0 ∧ x.getD j 0 ≤ 9999) → (∀ j, i < j → j < M → -9999 ≤ x.getD j 0 ∧ x.getD j 0 ≤ 9999) →
    (i < M → -10000 ≤ x.getD i 0 ∧ x.getD i 0 ≤ 9999) → Ev (fun k => F77c8 k x (M : Int) (i : Int)) ((digs S.toNat, ()), ((), (), ())) := by
  intro m
  induction m with
  | zero =>
    intro i x hi hx hS h1 _ _
    have hiM : i = M := by omega
    subst hiM
    refine Ev.step 1 (fun k => F77c8_eq k _ _ _) ?_
    simp only [lt_false (Nat.le_refl i), Bool.false_eq_true, if_false]
    have hr : InR x := InR.of fun j hj => h1 j (by omega)
    have := trim_ev hr (by omega)
    rw [hS] at this
    exact Ev.bind this (Ev.now _)
  | succ m ih =>
    intro i x hi hx hS h1 h2 h3
    have hiM : i < M := by omega
    have l0 : i < x.length := by omega
    have r0 := h3 hiM
    refine Ev.step 1 (fun k => F77c8_eq k _ _ _) ?_
    simp only [lt_true hiM, lt_true l0, ge0, Bool.and_self, if_true, Int.toNat_natCast, getI_of l0, Option.bind_some]
    by_cases hneg : x.getD i 0 < 0
    · have l1 : i + 1 < x.length := by
        rcases Nat.lt_or_ge (i + 1) x.length with h | h
        · exact h
        · exfalso
          have hx1 : x.length = i + 1 := by omega
          have hr : InR (x.take i) := InR.of fun j hj => by
            have hj' : j < i := by rw [List.length_take] at hj; omega
            have := h1 j hj'
            rw [List.getD_eq_getElem?_getD, List.getElem?_take_of_lt hj', ← List.getD_eq_getElem?_getD]
            exact this
          have h4 := VI_lt hr
          rw [List.length_take, Nat.min_eq_left (by omega)] at h4
          have h5 := VI_last hx1
          rw [hS] at h5
          have h6 : x.getD i 0 * 10000 ^ i ≤ -1 * 10000 ^ i := Int.mul_le_mul_of_nonneg_right (by omega) (Int.le_of_lt (pow_pos i))
          omega
      have hset : i + 1 < (x.set i (x.getD i 0 + 10000)).length := by rw [List.length_set]; exact l1
      have w1 : IntKind.i64.wrap (x.getD i 0 + 10000) = x.getD i 0 + 10000 := wrap64 (by omega) (by omega)
      have r1 := h2 (i + 1) (by omega) (by omega)
      have hget : (x.set i (x.getD i 0 + 10000)).getD (i + 1) 0 = x.getD (i + 1) 0 := by rw [getI_set l0, if_neg (by omega)]
      have w2 : IntKind.i64.wrap (x.getD (i + 1) 0 - 1) = x.getD (i + 1) 0 - 1 := wrap64 (by omega) (by omega)
      simp only [hneg, decide_true, if_true, wrap_succ (show i < 9223372036854775807 by omega), ge0, w1, lt_true hset, Bool.and_self, Int.toNat_natCast, getI_of hset, Option.bind_some, hget, w2]
      refine Ev.step 1 (fun k => F77c13_eq k _ _ _) ?_
      rw [wrap_succ (by omega)]
      have hgets : ∀ j, ((x.set i (x.getD i 0 + 10000)).set (i + 1) (x.getD (i + 1) 0 - 1)).getD j 0 = if j = i + 1 then x.getD (i + 1) 0 - 1 else if j = i then x.getD i 0 + 10000 else x.getD j 0 := fun j => by
        rw [getI_set hset, getI_set l0]
      refine ih (i + 1) _ (by omega) (by simpa using hx) ?_ (fun j hj => ?_) (fun j hj hj2 => ?_) (fun hj => ?_)
      · rw [VI_set hset, VI_set l0, hget, hS, Int.pow_succ]
        grind
      · rw [hgets, if_neg (by omega)]
        split
        · omega
        · exact h1 j (by omega)
      · rw [hgets, if_neg (by omega), if_neg (by omega)]
        exact h2 j (by omega) hj2
      · rw [hgets, if_pos rfl]
        omega
    · simp only [hneg, decide_false, Bool.false_eq_true, if_false]
      refine Ev.step 1 (fun k => F77c13_eq k _ _ _) ?_
      rw [wrap_succ (by omega)]
      refine ih (i + 1) _ (by omega) hx hS (fun j hj => ?_) (fun j hj hj2 => h2 j (by omega) hj2) (fun hj => ?_)
      · rcases Nat.eq_or_lt_of_le (Nat.le_of_lt_succ hj) with rfl | h
        · omega
        · exact h1 j h
      · have := h2 (i + 1) (by omega) hj
        omega
theorem sub_ev (ha : InR a) (hb : InR b) (tb : Trim b) (la : a.length ≤ 100000) (hle : VI b ≤ VI a) : Ev (fun k => F77 k a b) ((digs (VI a - VI b).toNat, ()), ((), (), ())) := by
  have hlen : b.length ≤ a.length := by
    rcases Nat.lt_or_ge a.length b.length with h | h
    · have := VI_len_lt ha hb tb h
      omega
    · exact h
  refine Ev.step 2 (fun k => F77_eq k a b) (Ev.bind (clone_ev a (by omega)) ?_)
  have key : ∀ (m i : Nat) (x : List Int), i + m = b.length → x.length = a.length → VI x = VI a - VI (b.take i) → (∀ j, j < i → -9999 ≤ x.getD j 0 ∧ x.getD j 0 ≤ 9999) → (∀ j, i ≤ j → j < a.length → 0 ≤ x.getD j 0 ∧ x.getD j 0 ≤ 9999) →
      Ev (fun k => F77c3 k x b (b.length : Int) (i : Int)) ((digs (VI a - VI b).toNat, ()), ((), (), ())) := by
    intro m
    induction m with
    | zero =>
      intro i x hi hx hV g1 g2
      have hib : i = b.length := by omega
      subst hib
      refine Ev.step 1 (fun k => F77c3_eq k _ _ _ _) ?_
      simp only [lt_false (Nat.le_refl b.length), Bool.false_eq_true, if_false]
      rw [VI_take_all] at hV
      have hall : ∀ j, j < x.length → -9999 ≤ x.getD j 0 ∧ x.getD j 0 ≤ 9999 := fun j hj => by
        rcases Nat.lt_or_ge j b.length with h | h
        · exact g1 j h
        · have := g2 j h (by omega)
          omega
      exact subC (by omega) (by omega) x.length 0 x (by omega) rfl hV (fun j hj => by omega) (fun j _ hj => hall j hj) (fun hj => by have := hall 0 hj; omega)
    | succ m ih =>
      intro i x hi hx hV g1 g2
      have hib : i < b.length := by omega
      have l0 : i < x.length := by omega
      have rb := hb.at hib
      have rx := g2 i (Nat.le_refl _) (by omega)
      have w1 : IntKind.i64.wrap (x.getD i 0 - b.getD i 0) = x.getD i 0 - b.getD i 0 := wrap64 (by omega) (by omega)
      refine Ev.step 1 (fun k => F77c3_eq k _ _ _ _) ?_
      simp only [lt_true hib, lt_true l0, ge0, Bool.and_self, if_true, Int.toNat_natCast, getI_of hib, getI_of l0, Option.bind_some, w1, wrap_succ (show i < 9223372036854775807 by omega)]
      refine ih (i + 1) _ (by omega) (by simpa using hx) ?_ (fun j hj => ?_) (fun j hj hj2 => ?_)
      · rw [VI_set l0, VI_take_succ hib, hV]
        grind
      · rw [getI_set l0]
        split
        · omega
        · exact g1 j (by omega)
      · rw [getI_set l0, if_neg (by omega)]
        exact g2 j (by omega) hj2
  exact key b.length 0 a (by omega) rfl (by simp [VI]) (fun j hj => by omega) (fun j _ hj => ha.at hj)
end
end Go.Proofs.YtennmjbdmglebaaGreatDoor.R
end

section
/-! Rf, limbs: products, powers of ten. -/
set_option autoImplicit false
namespace Go.Proofs.YtennmjbdmglebaaGreatDoor.R
open Go.Rf
theorem mul_small {x y : Int} (hx : 0 ≤ x ∧ x ≤ 9999) (hy : 0 ≤ y ∧ y ≤ 9999) : 0 ≤ x * y ∧ x * y ≤ 99980001 := by
  refine ⟨Int.mul_nonneg hx.1 hy.1, ?_⟩
  have := Int.mul_le_mul hx.2 hy.2 hy.1 (show (0 : Int) ≤ 9999 by omega)
  omega
theorem addN {i k : Nat} (h : i + k < 4611686018427387904) : IntKind.i64.wrap ((i : Int) + (k : Int)) = ((i + k : Nat) : Int) := by
  rw [wrap64 (by omega) (by omega)]
  omega
/-- one limb more of a product's row -/
theorem VI_row {x : List Int} {i k : Nat} {V0 ai c s n : Int} {b : List Int} (hk : k < b.length) (hx : i + k < x.length) (hV : VI x + c * 10000 ^ (i + k) = V0 + ai * VI (b.take k) * 10000 ^ i) (hn : n = x.getD (i + k) 0 + ai * b.getD k 0 + c) (hs : s = n % 10000) :
    VI (x.set (i + k) s) + n / 10000 * 10000 ^ (i + (k + 1)) = V0 + ai * VI (b.take (k + 1)) * 10000 ^ i := by
  have e1 : n = 10000 * (n / 10000) + s := by omega
  have e2 : (10000 : Int) ^ (i + (k + 1)) = 10000 ^ (i + k) * 10000 := by rw [← Nat.add_assoc, Int.pow_succ]
  have e3 : (10000 : Int) ^ (i + k) = 10000 ^ i * 10000 ^ k := Int.pow_add 10000 i k
  rw [VI_set hx, VI_take_succ hk, e2]
  rw [e3] at hV ⊢
  grind
section
variable {a b : List Int}
theorem mulI (ha : InR a) (hb : InR b) (la : a.length ≤ 100000) (lb : b.length ≤ 100000) {i : Nat} (hi : i < a.length) {V0 : Int} {R : (List Int × Unit) × (Unit × Unit × Unit)}
    (hR : ∀ x : List Int, x.length = a.length + b.length + 1 → VI x = V0 + a.getD i 0 * VI b * 10000 ^ i → InR x → (∀ j, i + 1 + b.length ≤ j → x.getD j 0 = 0) → Ev (fun k => F56c3 k b x a (a.length : Int) ((i + 1 : Nat) : Int)) R) :
    ∀ (m n : Nat) (x : List Int) (c : Int), n + m = b.length → x.length = a.length + b.length + 1 → VI x + c * 10000 ^ (i + n) = V0 + a.getD i 0 * VI (b.take n) * 10000 ^ i → InR x → (0 ≤ c ∧ c ≤ 9999) → (∀ j, i + b.length ≤ j → x.getD j 0 = 0) →
    Ev (fun k => F56c7 k b x (i : Int) (a.getD i 0) c a (a.length : Int) (i : Int) b (b.length : Int) (n : Int)) R := by
  intro m
  induction m with
  | zero =>
    intro n x c hn hx hV hr hc h0
    have hnb : n = b.length := by omega
    subst hnb
    have l0 : i + b.length < x.length := by omega
    have hz := h0 (i + b.length) (Nat.le_refl _)
    have w1 : IntKind.i64.wrap (0 + c) = c := by rw [wrap64 (by omega) (by omega)]; omega
    refine Ev.step 1 (fun k => F56c7_eq k _ _ _ _ _ _ _ _ _ _ _) ?_
    simp only [lt_false (Nat.le_refl b.length), Bool.false_eq_true, if_false, addN (show i + b.length < 4611686018427387904 by omega), ge0, lt_true l0, Bool.and_self, if_true, Int.toNat_natCast, getI_of l0, Option.bind_some, hz, w1, wrap_succ (show i < 9223372036854775807 by omega)]
    rw [VI_take_all] at hV
    refine hR _ (by simpa using hx) ?_ (InR.of fun j hj => ?_) (fun j hj => ?_)
    · rw [VI_set l0, hz, ← hV, Int.sub_zero]
    · rw [getI_set l0]
      split
      · omega
      · exact hr.at (by simpa using hj)
    · rw [getI_set l0, if_neg (by omega)]
      exact h0 j (by omega)
  | succ m ih =>
    intro n x c hn hx hV hr hc h0
    have hnb : n < b.length := by omega
    have l0 : i + n < x.length := by omega
    have ra := ha.at hi
    have rb := hb.at hnb
    have rx := hr.at l0
    have rm := mul_small ra rb
    obtain ⟨v, hv⟩ : ∃ v, v = x.getD (i + n) 0 + a.getD i 0 * b.getD n 0 + c := ⟨_, rfl⟩
    have w1 : IntKind.i64.wrap (a.getD i 0 * b.getD n 0) = a.getD i 0 * b.getD n 0 := wrap64 (by omega) (by omega)
    have w2 : IntKind.i64.wrap (x.getD (i + n) 0 + a.getD i 0 * b.getD n 0) = x.getD (i + n) 0 + a.getD i 0 * b.getD n 0 := wrap64 (by omega) (by omega)
    have w3 : IntKind.i64.wrap v = v := wrap64 (by omega) (by omega)
    have hv0 : 0 ≤ v := by omega
    refine Ev.step 1 (fun k => F56c7_eq k _ _ _ _ _ _ _ _ _ _ _) ?_
    simp only [lt_true hnb, addN (show i + n < 4611686018427387904 by omega), ge0, lt_true l0, Bool.and_self, if_true, Int.toNat_natCast, getI_of hnb, getI_of l0, Option.bind_some, w1, w2, ← hv, w3, tdiv_pos hv0, tmod_pos hv0, wrap_succ (show n < 9223372036854775807 by omega)]
    rw [wrap64 (n := v / 10000) (by omega) (by omega)]
    refine ih (n + 1) _ _ (by omega) (by simpa using hx) (VI_row hnb l0 hV hv rfl) (InR.of fun j hj => ?_) (by omega) (fun j hj => ?_)
    · rw [getI_set l0]
      split
      · omega
      · exact hr.at (by simpa using hj)
    · rw [getI_set l0, if_neg (by omega)]
      exact h0 j hj
theorem mul_ev (ha : InR a) (hb : InR b) (la : a.length ≤ 100000) (lb : b.length ≤ 100000) : Ev (fun k => F56 k a b) ((digs (VI a * VI b).toNat, ()), ((), (), ())) := by
  have e1 : IntKind.i64.wrap (((a.length + b.length : Nat) : Int) + 1) = ((a.length + b.length + 1 : Nat) : Int) := wrap_succ (by omega)
  have hc : decide (((a.length + b.length + 1 : Nat) : Int) ≤ (17592186044416 : Int)) = true := decide_eq_true (by omega)
  refine Ev.step 2 (fun k => F56_eq k a b) ?_
  simp only [addN (show a.length + b.length < 4611686018427387904 by omega), e1, ge0, le_true (Nat.le_refl (a.length + b.length + 1)), hc, Bool.and_self, if_true, Int.toNat_natCast]
  have key : ∀ (m i : Nat) (x : List Int), i + m = a.length → x.length = a.length + b.length + 1 → VI x = VI (a.take i) * VI b → InR x → (∀ j, i + b.length ≤ j → x.getD j 0 = 0) → Ev (fun k => F56c3 k b x a (a.length : Int) (i : Int)) ((digs (VI a * VI b).toNat, ()), ((), (), ())) := by
    intro m
    induction m with
    | zero =>
      intro i x hi hx hV hr _
      have hia : i = a.length := by omega
      subst hia
      refine Ev.step 1 (fun k => F56c3_eq k _ _ _ _ _) ?_
      simp only [lt_false (Nat.le_refl a.length), Bool.false_eq_true, if_false]
      have := trim_ev hr (by omega)
      rw [hV, VI_take_all] at this
      exact Ev.bind this (Ev.now _)
    | succ m ih =>
      intro i x hi hx hV hr h0
      have hia : i < a.length := by omega
      refine Ev.step 1 (fun k => F56c3_eq k _ _ _ _ _) ?_
      simp only [lt_true hia, ge0, if_true, Int.toNat_natCast, getI_of hia, Option.bind_some]
      refine mulI ha hb la lb hia (V0 := VI (a.take i) * VI b) (fun y h1 h2 h3 h4 => ih (i + 1) y (by omega) h1 ?_ h3 h4) b.length 0 x 0 (by omega) hx ?_ hr (by omega) h0
      · rw [h2, VI_take_succ hia]
        grind
      · rw [hV]
        simp [VI]
  have hz : ∀ j, (List.replicate (a.length + b.length + 1) (0 : Int)).getD j 0 = 0 := fun j => by
    rw [List.getD_eq_getElem?_getD, List.getElem?_replicate]
    split <;> rfl
  exact key a.length 0 _ (by omega) (by simp) (by rw [VI_zeros]; simp [VI]) (fun d hd => by rw [(List.mem_replicate.1 hd).2]; omega) (fun j _ => hz j)
theorem limb_ev {i : Nat} : Ev (fun k => F99 k b (i : Int)) ((b.getD i 0, ()), ((), (), ())) := by
  refine Ev.step 2 (fun k => F99_eq k b i) ?_
  rcases Nat.lt_or_ge i b.length with h | h
  · simp only [lt_true h, ge0, if_true, Int.toNat_natCast, getI_of h, Option.bind_some]
    exact Ev.now _
  · simp only [lt_false h, Bool.false_eq_true, if_false]
    rw [List.getD_eq_getElem?_getD, List.getElem?_eq_none h]
    exact Ev.now _
theorem l1MulI (ha : InR a) (hb : InR b) (la : a.length ≤ 100000) (lb : b.length ≤ 100000) {i : Nat} (hi : i < a.length) {V0 : Int} {R : (List Int × Unit) × (Unit × Unit × Unit)}
    (hR : ∀ x : List Int, x.length = a.length + b.length → VI x = V0 + a.getD i 0 * VI b * 10000 ^ i → InR x → (∀ j, i + 1 + b.length ≤ j → x.getD j 0 = 0) → Ev (fun k => F85c3 k a b x ((i + 1 : Nat) : Int)) R) :
    ∀ (m n : Nat) (x : List Int) (c : Int), n + m = b.length → x.length = a.length + b.length → VI x + c * 10000 ^ (i + n) = V0 + a.getD i 0 * VI (b.take n) * 10000 ^ i → InR x → (0 ≤ c ∧ c ≤ 9999) → (∀ j, i + b.length ≤ j → x.getD j 0 = 0) →
    Ev (fun k => F85c7 k a b x (i : Int) c (n : Int)) R := by
  intro m
  have ra := ha.at hi
  induction m with
  | zero =>
    intro n x c hn hx hV hr hc h0
    have hnb : n = b.length := by omega
    subst hnb
    have l0 : i + b.length < x.length := by omega
    have hz := h0 (i + b.length) (Nat.le_refl _)
    rw [VI_take_all] at hV
    refine Ev.step 1 (fun k => F85c7_eq k _ _ _ _ _ _) ?_
    simp only [lt_false (Nat.le_refl b.length), Bool.false_eq_true, if_false]
    by_cases hpos : c > 0
    · have hlimb : b.getD b.length 0 = 0 := by rw [List.getD_eq_getElem?_getD, List.getElem?_eq_none (Nat.le_refl _)]; rfl
      simp only [hpos, decide_true, if_true, addN (show i + b.length < 4611686018427387904 by omega), ge0, lt_true l0, Bool.and_self, Int.toNat_natCast, getI_of l0, getI_of hi, Option.bind_some]
      refine Ev.bind limb_ev ?_
      have e0 : IntKind.i64.wrap (a.getD i 0 * 0) = 0 := by rw [Int.mul_zero]; decide
      have e1 : IntKind.i64.wrap ((0 : Int) + 0) = 0 := by decide
      have e2 : IntKind.i64.wrap (0 + c) = c := by rw [wrap64 (by omega) (by omega)]; omega
      have e3 : c / 10000 = 0 := by omega
      have e4 : c % 10000 = c := by omega
      have e5 : IntKind.i64.wrap (0 : Int) = 0 := by decide
      simp only [hlimb, hz, e0, e1, e2, tdiv_pos hc.1, tmod_pos hc.1, e3, e4, e5, wrap_succ (show b.length < 9223372036854775807 by omega)]
      have hgt : decide (((b.length + 1 : Nat) : Int) < (b.length : Int)) = false := lt_false (by omega)
      have h00 : decide ((0 : Int) > 0) = false := by decide
      refine Ev.step 1 (fun k => F85c7_eq k _ _ _ _ _ _) ?_
      simp only [hgt, h00, Bool.false_eq_true, if_false, wrap_succ (show i < 9223372036854775807 by omega)]
      refine hR _ (by simpa using hx) ?_ (InR.of fun j hj => ?_) (fun j hj => ?_)
      · rw [VI_set l0, hz, ← hV, Int.sub_zero]
      · rw [getI_set l0]
        split
        · omega
        · exact hr.at (by simpa using hj)
      · rw [getI_set l0, if_neg (by omega)]
        exact h0 j (by omega)
    · have hc0 : c = 0 := by omega
      subst hc0
      simp only [hpos, decide_false, Bool.false_eq_true, if_false, wrap_succ (show i < 9223372036854775807 by omega)]
      refine hR x hx (by rw [← hV]; omega) hr (fun j hj => h0 j (by omega))
  | succ m ih =>
    intro n x c hn hx hV hr hc h0
    have hnb : n < b.length := by omega
    have l0 : i + n < x.length := by omega
    have rb := hb.at hnb
    have rx := hr.at l0
    have rm := mul_small ra rb
    obtain ⟨v, hv⟩ : ∃ v, v = x.getD (i + n) 0 + a.getD i 0 * b.getD n 0 + c := ⟨_, rfl⟩
    have w1 : IntKind.i64.wrap (a.getD i 0 * b.getD n 0) = a.getD i 0 * b.getD n 0 := wrap64 (by omega) (by omega)
    have w2 : IntKind.i64.wrap (x.getD (i + n) 0 + a.getD i 0 * b.getD n 0) = x.getD (i + n) 0 + a.getD i 0 * b.getD n 0 := wrap64 (by omega) (by omega)
    have w3 : IntKind.i64.wrap v = v := wrap64 (by omega) (by omega)
    have hv0 : 0 ≤ v := by omega
    refine Ev.step 1 (fun k => F85c7_eq k _ _ _ _ _ _) ?_
    simp only [lt_true hnb, addN (show i + n < 4611686018427387904 by omega), ge0, lt_true l0, Bool.and_self, if_true, Int.toNat_natCast, getI_of hi, getI_of l0, Option.bind_some]
    refine Ev.bind limb_ev ?_
    simp only [w1, w2, ← hv, w3, tdiv_pos hv0, tmod_pos hv0, wrap_succ (show n < 9223372036854775807 by omega)]
    rw [wrap64 (n := v / 10000) (by omega) (by omega)]
    refine ih (n + 1) _ _ (by omega) (by simpa using hx) (VI_row hnb l0 hV hv rfl) (InR.of fun j hj => ?_) (by omega) (fun j hj => ?_)
    · rw [getI_set l0]
      split
      · omega
      · exact hr.at (by simpa using hj)
    · rw [getI_set l0, if_neg (by omega)]
      exact h0 j hj
theorem l1MulAbs_ev (ha : InR a) (hb : InR b) (la : a.length ≤ 100000) (lb : b.length ≤ 100000) : Ev (fun k => F85 k a b) ((digs (VI a * VI b).toNat, ()), ((), (), ())) := by
  have hc : decide (((a.length + b.length : Nat) : Int) ≤ (17592186044416 : Int)) = true := decide_eq_true (by omega)
  refine Ev.step 2 (fun k => F85_eq k a b) ?_
  simp only [addN (show a.length + b.length < 4611686018427387904 by omega), ge0, le_true (Nat.le_refl (a.length + b.length)), hc, Bool.and_self, if_true, Int.toNat_natCast]
  have key : ∀ (m i : Nat) (x : List Int), i + m = a.length → x.length = a.length + b.length → VI x = VI (a.take i) * VI b → InR x → (∀ j, i + b.length ≤ j → x.getD j 0 = 0) → Ev (fun k => F85c3 k a b x (i : Int)) ((digs (VI a * VI b).toNat, ()), ((), (), ())) := by
    intro m
    induction m with
    | zero =>
      intro i x hi hx hV hr _
      have hia : i = a.length := by omega
      subst hia
      refine Ev.step 1 (fun k => F85c3_eq k _ _ _ _) ?_
      simp only [lt_false (Nat.le_refl a.length), Bool.false_eq_true, if_false]
      have := l1Trim_ev hr (by omega)
      rw [hV, VI_take_all] at this
      exact Ev.bind this (Ev.now _)
    | succ m ih =>
      intro i x hi hx hV hr h0
      have hia : i < a.length := by omega
      refine Ev.step 1 (fun k => F85c3_eq k _ _ _ _) ?_
      simp only [lt_true hia, if_true]
      refine l1MulI ha hb la lb hia (V0 := VI (a.take i) * VI b) (fun y h1 h2 h3 h4 => ih (i + 1) y (by omega) h1 ?_ h3 h4) b.length 0 x 0 (by omega) hx ?_ hr (by omega) h0
      · rw [h2, VI_take_succ hia]
        grind
      · rw [hV]
        simp [VI]
  have hz : ∀ j, (List.replicate (a.length + b.length) (0 : Int)).getD j 0 = 0 := fun j => by
    rw [List.getD_eq_getElem?_getD, List.getElem?_replicate]
    split <;> rfl
  exact key a.length 0 _ (by omega) (by simp) (by rw [VI_zeros]; simp [VI]) (fun d hd => by rw [(List.mem_replicate.1 hd).2]; omega) (fun j _ => hz j)
end
theorem digs_small {n : Nat} (h : 0 < n) (h2 : n < 10000) : digs n = [(n : Int)] := by
  rw [digs_pos (by omega), Nat.div_eq_of_lt h2, Nat.mod_eq_of_lt h2, digs_zero]
theorem VI_digs (n : Nat) : VI (digs n) = (n : Int) := (digs_spec n).2.2
theorem ten_len (i : Nat) : (digs (10 ^ i)).length ≤ i + 1 := digs_len_le (by
  have h1 : 10 ^ i ≤ 10000 ^ i := Nat.pow_le_pow_left (by omega) i
  have h2 : 0 < 10000 ^ i := Nat.pow_pos (by omega)
  rw [Nat.pow_succ]
  omega)
theorem ten_ev (n : Nat) (hn : n ≤ 1000) : Ev (fun k => F39 k (n : Int)) ((digs (10 ^ n), ()), ((), ())) := by
  have h1 : [(1 : Int)] = digs (10 ^ 0) := by rw [Nat.pow_zero, digs_small (by omega) (by omega)]; rfl
  refine Ev.step 2 (fun k => F39_eq k n) ?_
  have key : ∀ m i, i + m = n → Ev (fun k => F39c3 k (digs (10 ^ i)) (n : Int) (i : Int)) ((digs (10 ^ n), ()), ((), ())) := by
    intro m
    induction m with
    | zero =>
      intro i hi
      have : i = n := by omega
      subst this
      refine Ev.step 1 (fun k => F39c3_eq k _ _ _) ?_
      simp only [lt_false (Nat.le_refl i), Bool.false_eq_true, if_false]
      exact Ev.now _
    | succ m ih =>
      intro i hi
      have hin : i < n := by omega
      have hm := mul_ev (a := digs (10 ^ i)) (b := [10]) (digs_spec _).1 (InR.mk (by omega) InR.nil) (by have := ten_len i; omega) (by simp)
      have e : (VI (digs (10 ^ i)) * VI [10]).toNat = 10 ^ (i + 1) := by
        have : VI [10] = 10 := by decide
        rw [VI_digs, this, Nat.pow_succ]
        omega
      rw [e] at hm
      refine Ev.step 1 (fun k => F39c3_eq k _ _ _) ?_
      simp only [lt_true hin, if_true, wrap_succ (show i < 9223372036854775807 by omega)]
      exact Ev.bind hm (ih (i + 1) (by omega))
  rw [h1]
  exact key n 0 (by omega)
theorem tens_digs (q : Nat) {t : Nat} (h0 : 0 < t) (h1 : t < 10000) : List.replicate q (0 : Int) ++ [(t : Int)] = digs (t * 10000 ^ q) := by
  refine digs_of (fun d hd => ?_) (.inr ?_) ?_
  · rcases List.mem_append.1 hd with hd | hd
    · rw [(List.mem_replicate.1 hd).2]
      omega
    · rw [List.mem_singleton.1 hd]
      omega
  · rw [List.length_append, List.length_replicate, List.getD_eq_getElem?_getD, List.getElem?_append_right (by simp)]
    simp
    omega
  · rw [VI_append, VI_zeros, List.length_replicate]
    show (0 : Int) + 10000 ^ q * ((t : Int) + 10000 * 0) = ((t * 10000 ^ q : Nat) : Int)
    rw [Int.natCast_mul, Int.natCast_pow]
    grind
theorem l1TenAbs_ev (n : Nat) (hn : n ≤ 1000) : Ev (fun k => F75 k (n : Int)) ((digs (10 ^ n), ()), ((), ())) := by
  have top : ∀ (m : Nat) (x : List Int) (t : Nat), x.length ≤ 1000 → t * 10 ^ m ≤ 1000000 → 0 < t → Ev (fun k => F75c6 k (m : Int) x (t : Int)) ((x ++ [((t * 10 ^ m : Nat) : Int)], ()), ((), ())) := by
    intro m
    induction m with
    | zero =>
      intro x t hx _ _
      have hc : decide (x.length + [(t : Int)].length ≤ 17592186044416) = true := decide_eq_true (by simp; omega)
      have h0 : decide (((0 : Nat) : Int) > 0) = false := by decide
      refine Ev.step 1 (fun k => F75c6_eq k _ _ _) ?_
      simp only [h0, Bool.false_eq_true, if_false, hc, if_true]
      rw [Nat.pow_zero, Nat.mul_one]
      exact Ev.now _
    | succ m ih =>
      intro x t hx ht h0
      have hp : 0 < 10 ^ m := Nat.pow_pos (by omega)
      have e : t * 10 ^ (m + 1) = t * 10 * 10 ^ m := by rw [Nat.pow_succ]; grind
      have ht10 : t * 10 ≤ t * 10 * 10 ^ m := Nat.le_mul_of_pos_right _ hp
      have hm : m ≤ 1000000 := by
        have h1 : m < 10 ^ m := Nat.lt_pow_self (by omega)
        have h2 : 10 ^ m ≤ t * 10 * 10 ^ m := Nat.le_mul_of_pos_left _ (by omega)
        omega
      have w1 : IntKind.i64.wrap (((m + 1 : Nat) : Int) - 1) = (m : Int) := by rw [wrap64 (by omega) (by omega)]; omega
      have w2 : IntKind.i64.wrap ((t : Int) * 10) = ((t * 10 : Nat) : Int) := by rw [wrap64 (by omega) (by omega)]; omega
      have hg : decide (((m + 1 : Nat) : Int) > 0) = true := decide_eq_true (by omega)
      refine Ev.step 1 (fun k => F75c6_eq k _ _ _) ?_
      simp only [hg, if_true, w1, w2]
      rw [e]
      exact ih x (t * 10) hx (by omega) (by omega)
  have key : ∀ (n q : Nat), n ≤ 1000 → q ≤ 500 - n / 4 → Ev (fun k => F75c2 k (n : Int) (List.replicate q 0)) ((digs (10 ^ n * 10000 ^ q), ()), ((), ())) := by
    intro n
    induction n using Nat.strongRecOn with
    | _ n ih =>
      intro q hn hq
      refine Ev.step 1 (fun k => F75c2_eq k _ _) ?_
      by_cases h4 : 4 ≤ n
      · have hg : decide ((n : Int) ≥ 4) = true := decide_eq_true (by omega)
        have hc : decide ((List.replicate q (0 : Int)).length + [(0 : Int)].length ≤ 17592186044416) = true := decide_eq_true (by simp; omega)
        have w1 : IntKind.i64.wrap ((n : Int) - 4) = ((n - 4 : Nat) : Int) := by rw [wrap64 (by omega) (by omega)]; omega
        have er : List.replicate q (0 : Int) ++ [0] = List.replicate (q + 1) 0 := List.replicate_succ'.symm
        have e : 10 ^ n * 10000 ^ q = 10 ^ (n - 4) * 10000 ^ (q + 1) := by
          have h1 : 10 ^ n = 10 ^ (n - 4) * 10000 := by
            have : n = (n - 4) + 4 := by omega
            rw [this, Nat.pow_add]
            simp
          rw [h1, Nat.pow_succ]
          grind
        simp only [hg, if_true, hc, w1, er]
        rw [e]
        exact ih (n - 4) (by omega) (q + 1) (by omega) (by omega)
      · have hg : decide ((n : Int) ≥ 4) = false := decide_eq_false (by omega)
        have hp : 10 ^ n ≤ 1000 := by
          have : n = 0 ∨ n = 1 ∨ n = 2 ∨ n = 3 := by omega
          rcases this with h | h | h | h <;> subst h <;> decide
        have hp0 : 0 < 10 ^ n := Nat.pow_pos (by omega)
        simp only [hg, Bool.false_eq_true, if_false]
        have := top n (List.replicate q 0) 1 (by simp; omega) (by omega) (by omega)
        rw [Nat.one_mul, tens_digs q hp0 (by omega)] at this
        exact this
  have := key n 0 hn (by omega)
  rw [Nat.pow_zero, Nat.mul_one] at this
  exact Ev.step 2 (fun k => F75_eq k n) this
end Go.Proofs.YtennmjbdmglebaaGreatDoor.R
end

section
/-! Rf, decimals: figures; what is in order. -/
set_option autoImplicit false
set_option linter.unusedSimpArgs false
namespace Go.Proofs.YtennmjbdmglebaaGreatDoor.R
open Go.Rf
theorem l1In_ev (n lo hi : Int) : Ev (fun k => F41 k n lo hi) ((within n lo hi, ()), ((), (), (), ())) := by
  refine Ev.step 2 (fun k => F41_eq k n lo hi) ?_
  unfold within
  cases decide (n ≥ lo) with
  | true => exact Ev.now _
  | false => exact Ev.now _
theorem in_ev (n lo hi : Int) : Ev (fun k => F58 k n lo hi) ((within n lo hi, ()), ((), (), (), ())) := by
  refine Ev.step 2 (fun k => F58_eq k n lo hi) ?_
  unfold within
  cases decide (n ≥ lo) with
  | true => exact Ev.now _
  | false => exact Ev.now _
/-! ### figures -/
theorem l1Dec_ev : ∀ n : Nat, n ≤ 1000000000000000000 → Ev (fun k => F106 k (n : Int)) ((⟨(Lib.decDigits n).toArray⟩, ()), ((), ())) := by
  intro n
  induction n using Nat.strongRecOn with
  | _ n ih =>
    intro hn
    have c1 : decide ((n : Int) < (-9223372036854775807 : Int)) = false := decide_eq_false (by omega)
    have c2 : decide ((n : Int) < 0) = false := decide_eq_false (by omega)
    refine Ev.step 2 (fun k => F106_eq k n) ?_
    simp only [c1, c2, Bool.false_eq_true, if_false]
    by_cases h : n < 10
    · have c3 : decide ((n : Int) < 10) = true := decide_eq_true (by omega)
      rw [Lib.decDigits, dif_pos h]
      simp only [c3, if_true, bytesOf_digit h]
      exact Ev.now _
    · have c3 : decide ((n : Int) < 10) = false := decide_eq_false (by omega)
      have e1 : IntKind.i64.wrap ((n : Int).tdiv 10) = ((n / 10 : Nat) : Int) := by
        rw [Int.tdiv_eq_ediv_of_nonneg (by omega), wrap64 (by omega) (by omega)]
        omega
      have e2 : (n : Int).tmod 10 = ((n % 10 : Nat) : Int) := by
        rw [Int.tmod_eq_emod_of_nonneg (by omega)]
        omega
      have hl := decDigits_len 18 (n / 10) (by omega)
      rw [Lib.decDigits, dif_neg h]
      simp only [c3, Bool.false_eq_true, if_false, e1, e2, bytesOf_digit (show n % 10 < 10 by omega)]
      refine Ev.bind (ih (n / 10) (by omega) (by omega)) ?_
      have hb : Nat.ble ((Lib.decDigits (n / 10)).length + [UInt8.ofNat (48 + n % 10)].length) 9223372036854775807 = true := Nat.ble_eq_true_of_le (by simp; omega)
      simp only [bytes_size, hb, if_true, bytes_append]
      exact Ev.now _
theorem l1Wide_ev {d : Int} (h : 0 ≤ d ∧ d ≤ 9999) : Ev (fun k => F107 k d 4) ((⟨(fig4 d).toArray⟩, ()), ((), (), ())) := by
  obtain ⟨n, rfl⟩ : ∃ n : Nat, d = (n : Int) := ⟨d.toNat, by omega⟩
  have hl := itoa_len4 h
  refine Ev.step 2 (fun k => F107_eq k _ _) (Ev.bind (l1Dec_ev n (by omega)) ?_)
  have key : ∀ (m : Nat) (x : List UInt8), x.length + m = 4 ∨ (m = 0 ∧ 4 ≤ x.length) → Ev (fun k => F107c2 k 4 ⟨x.toArray⟩) ((⟨(Lib.repeatL [48] m ++ x).toArray⟩, ()), ((), (), ())) := by
    intro m
    induction m with
    | zero =>
      intro x hx
      have c : decide ((x.length : Int) < 4) = false := decide_eq_false (by omega)
      refine Ev.step 1 (fun k => F107c2_eq k _ _) ?_
      simp only [bytes_size, c, Bool.false_eq_true, if_false]
      exact Ev.now _
    | succ m ih =>
      intro x hx
      have c : decide ((x.length : Int) < 4) = true := decide_eq_true (by omega)
      have hb : Nat.ble ([(48 : UInt8)].length + x.length) 9223372036854775807 = true := Nat.ble_eq_true_of_le (by simp; omega)
      refine Ev.step 1 (fun k => F107c2_eq k _ _) ?_
      have e : (⟨#[48]⟩ : ByteArray) = ⟨[(48 : UInt8)].toArray⟩ := rfl
      simp only [e, bytes_size, c, if_true, hb, bytes_append]
      have := ih ([48] ++ x) (by simp; omega)
      have e2 : Lib.repeatL [48] m ++ ([48] ++ x) = Lib.repeatL [48] (m + 1) ++ x := by
        rw [Lib.repeatL_add, Lib.repeatL_one, List.append_assoc]
      rw [e2] at this
      exact this
  have := key (4 - (Lib.itoa (n : Int)).length) (Lib.decDigits n) (by rw [itoa_nat] at hl ⊢; omega)
  unfold fig4
  rw [itoa_nat] at this ⊢
  exact this
theorem l1Figures_ev {l : List Int} (hr : InR l) (hl : l.length ≤ 1000000) : Ev (fun k => F90 k l) ((textL l, ()), ((), ())) := by
  refine Ev.step 2 (fun k => F90_eq k l) ?_
  rcases Nat.eq_zero_or_pos l.length with h0 | h0
  · obtain rfl := List.eq_nil_of_length_eq_zero h0
    exact Ev.now _
  · obtain ⟨n, hn⟩ : ∃ n, l.length = n + 1 := ⟨l.length - 1, by omega⟩
    have c : ((l.length : Int) == 0) = false := len0_false h0
    have hlt : n < l.length := by omega
    have rn := hr.at hlt
    obtain ⟨d, hd⟩ : ∃ d : Nat, l.getD n 0 = (d : Int) := ⟨(l.getD n 0).toNat, by omega⟩
    simp only [c, Bool.false_eq_true, if_false, pred_len hn (by omega), ge0, if_true, Int.toNat_natCast, getI_of hlt, Option.bind_some, hd]
    refine Ev.bind (l1Dec_ev d (by omega)) ?_
    have w : IntKind.i64.wrap ((l.length : Int) - 2) = (n : Int) - 1 := by rw [wrap64 (by omega) (by omega)]; omega
    rw [w, textL_pos (by intro e; subst e; simp at h0)]
    have key : ∀ m, m ≤ n → Ev (fun k => F90c5 k l ⟨(figs (l.drop m)).toArray⟩ ((m : Int) - 1)) ((⟨(figs l).toArray⟩, ()), ((), ())) := by
      intro m
      induction m with
      | zero =>
        intro _
        exact Ev.step 1 (fun k => F90c5_eq k _ _ _) (Ev.now _)
      | succ m ih =>
        intro hm
        have e : ((m + 1 : Nat) : Int) - 1 = (m : Int) := by omega
        have hge : decide ((m : Int) ≥ 0) = true := by simp
        have hml : m < l.length := by omega
        have h1 := figs_len (l := l.drop (m + 1)) (fun d hd => hr d (List.mem_of_mem_drop hd))
        have h2 := fig4_len (hr.at hml)
        have hb : Nat.ble ((figs (l.drop (m + 1))).length + (fig4 (l.getD m 0)).length) 9223372036854775807 = true := Nat.ble_eq_true_of_le (by rw [List.length_drop] at h1; omega)
        rw [e]
        refine Ev.step 1 (fun k => F90c5_eq k _ _ _) ?_
        simp only [hge, if_true, ge0, Int.toNat_natCast, getI_of hml, Option.bind_some]
        refine Ev.bind (l1Wide_ev (hr.at hml)) ?_
        simp only [bytes_size, hb, if_true, bytes_append, ← figs_drop (show m + 1 < l.length by omega)]
        rw [wrap64 (by omega) (by omega)]
        exact ih (by omega)
    have := key n (Nat.le_refl _)
    rw [figs_last hn, hd, itoa_nat] at this
    exact this
theorem l1Long_ev {l : List Int} (hr : InR l) (hl : l.length ≤ 1000000) : Ev (fun k => F71 k l) ((long l, ()), ((), ())) := by
  refine Ev.step 2 (fun k => F71_eq k l) ?_
  unfold long
  by_cases h : l.length = 0
  · have c : ((l.length : Int) == 0) = true := by simp [h]
    simp only [c, if_true, h]
    exact Ev.now _
  · have c : ((l.length : Int) == 0) = false := len0_false (Nat.pos_of_ne_zero h)
    simp only [c, h, Bool.false_eq_true, if_false]
    exact Ev.bind (l1Figures_ev hr hl) (Ev.now _)
theorem text_ev {l : List Int} (hr : InR l) (hl : l.length ≤ 1000000) : Ev (fun k => F88 k l) ((textL l, ()), ((), ())) := by
  refine Ev.step 1 (fun k => F88_eq k l) ?_
  have : textR (l, ()) = some ((textL l, ()), ((), ())) := if_pos (limbsOk_of hr hl)
  rw [this]
  exact Ev.now _
theorem digits_ev {l : List Int} (hr : InR l) (hl : l.length ≤ 1000000) : Ev (fun k => F64 k l) ((long l, ()), ((), ())) := by
  refine Ev.step 2 (fun k => F64_eq k l) ?_
  unfold long
  by_cases h : l.length = 0
  · have c : ((l.length : Int) == 0) = true := by simp [h]
    simp only [c, if_true, h]
    exact Ev.now _
  · have c : ((l.length : Int) == 0) = false := len0_false (Nat.pos_of_ne_zero h)
    simp only [c, h, Bool.false_eq_true, if_false]
    exact Ev.bind (text_ev hr hl) (Ev.now _)
/-! ### in order -/
theorem idx_ev (l : List Int) (h : l.length ≤ 1048576) : ∃ r, Ev (fun k => F88100 k l) r ∧ decide (r.1.1 ≥ (0 : Int)) = !rangeOk l := by
  obtain ⟨r, h1, h2⟩ := find_loop (L := fun k i => F88100c2 k l (l.length : Int) i) (n := l.length) (no := fun i => (((i : Int), ()), ((), (), ()))) (yes := (((-1 : Int), ()), ((), (), ()))) (c := fun i => within (l.getD i 0) 0 9999) (fun i hi hc => by
      refine Ev.step 1 (fun k => F88100c2_eq k l _ i) ?_
      simp only [lt_true hi, ge0, if_true, Int.toNat_natCast, getI_of hi, Option.bind_some]
      refine Ev.bind (Ev.step 2 (fun k => F87_eq k _) (Ev.bind (in_ev _ _ _) (Ev.now _))) ?_
      simp only [hc, Bool.not_false, if_true]
      exact Ev.now _) (fun i hi hc r hr => by
      refine Ev.step 1 (fun k => F88100c2_eq k l _ i) ?_
      simp only [lt_true hi, ge0, if_true, Int.toNat_natCast, getI_of hi, Option.bind_some]
      refine Ev.bind (Ev.step 2 (fun k => F87_eq k _) (Ev.bind (in_ev _ _ _) (Ev.now _))) ?_
      simp only [hc, Bool.not_true, Bool.false_eq_true, if_false]
      rw [wrap_succ (by omega)]
      exact hr) (by
      refine Ev.step 1 (fun k => F88100c2_eq k l _ l.length) ?_
      simp only [lt_false (Nat.le_refl l.length), Bool.false_eq_true, if_false]
      exact Ev.now _)
  refine ⟨r, Ev.step 2 (fun k => F88100_eq k l) h1, ?_⟩
  unfold rangeOk
  rcases h2 with ⟨h2, rfl⟩ | ⟨h2, i, _, rfl⟩
  · rw [h2]; rfl
  · rw [h2]; simp
theorem has_ev (l : List Int) (h : l.length ≤ 1048576) : Ev (fun k => F88086 k l) ((!rangeOk l, ()), ((), (), ())) := by
  obtain ⟨r, h1, h2⟩ := idx_ev l h
  refine Ev.step 2 (fun k => F88086_eq k l) (Ev.bind h1 ?_)
  simp only [h2]
  exact Ev.now _
theorem BigOk_ev (neg : Bool) (l : List Int) (h : l.length ≤ 1048576) : Ev (fun k => F63 k neg l) ((bOk neg l, ()), (((), (), ()), ())) := by
  refine Ev.step 2 (fun k => F63_eq k neg l) ?_
  unfold bOk lastOk
  by_cases h16 : l.length ≤ 16
  · have c16 : decide ((l.length : Int) ≤ 16) = true := decide_eq_true (by omega)
    rcases Nat.eq_zero_or_pos l.length with h0 | h0
    · have c0 : ((l.length : Int) == 0) = true := by simp [h0]
      have cg : decide ((l.length : Int) > 0) = false := by simp [h0]
      simp only [c16, h16, c0, cg, h0, decide_true, if_true, Bool.true_and]
      cases neg with
      | true =>
        simp only [Bool.not_true, Bool.false_eq_true, if_false, Bool.and_false]
        exact Ev.now _
      | false =>
        simp only [Bool.not_false, if_true, Bool.and_true]
        refine Ev.bind (has_ev l h) ?_
        simp only [Bool.not_not]
        exact Ev.now _
    · obtain ⟨n, hn⟩ : ∃ n, l.length = n + 1 := ⟨l.length - 1, by omega⟩
      have c0 : ((l.length : Int) == 0) = false := len0_false h0
      have hne : ¬ l.length = 0 := by omega
      have hlt : n < l.length := by omega
      have e : l.length - 1 = n := by omega
      simp only [c16, h16, c0, hne, e, gt_true h0, pred_len hn (by omega), ge0, decide_true, if_true, Bool.true_and, Bool.false_eq_true, if_false, Int.toNat_natCast, getI_of hlt, Option.bind_some]
      cases hz : (l.getD n 0 != 0) with
      | true =>
        simp only [if_true, Bool.and_true]
        refine Ev.bind (has_ev l h) ?_
        simp only [Bool.not_not]
        exact Ev.now _
      | false =>
        simp only [Bool.false_eq_true, if_false, Bool.and_false]
        exact Ev.now _
  · have c16 : decide ((l.length : Int) ≤ 16) = false := decide_eq_false (by omega)
    simp only [c16, h16, decide_false, Bool.false_and, Bool.false_eq_true, if_false]
    exact Ev.now _
theorem l1Ok_ev (neg : Bool) (l : List Int) (h : l.length ≤ 1048576) : Ev (fun k => F70 k neg l) ((bOk neg l, ()), (((), (), ()), ())) := by
  refine Ev.step 2 (fun k => F70_eq k neg l) ?_
  by_cases h16 : l.length ≤ 16
  · have c16 : decide ((l.length : Int) > 16) = false := decide_eq_false (by omega)
    have loop : ∀ {q : Bool}, (l.length = 0 → q = true) → (∀ n, l.length = n + 1 → q = (l.getD n 0 != 0)) → Ev (fun k => F70c4 k neg l 0) ((rangeOk l && q, ()), (((), (), ()), ())) := by
      intro q q0 q1
      have := all_loop' (L := fun k i => F70c4 k neg l i) (n := l.length) (c := fun i => within (l.getD i 0) 0 9999) (no := ((false, ()), (((), (), ()), ()))) (yes := ((q, ()), (((), (), ()), ()))) (fun i hi hc => by
        refine Ev.step 1 (fun k => F70c4_eq k _ _ _) ?_
        simp only [lt_true hi, ge0, if_true, Int.toNat_natCast, getI_of hi, Option.bind_some]
        refine Ev.bind (l1In_ev _ _ _) ?_
        simp only [hc, Bool.not_false, if_true]
        exact Ev.now _) (fun i hi hc r hr => by
        refine Ev.step 1 (fun k => F70c4_eq k _ _ _) ?_
        simp only [lt_true hi, ge0, if_true, Int.toNat_natCast, getI_of hi, Option.bind_some]
        refine Ev.bind (l1In_ev _ _ _) ?_
        simp only [hc, Bool.not_true, Bool.false_eq_true, if_false]
        rw [wrap_succ (by omega)]
        exact hr) (fun _ => by
        refine Ev.step 1 (fun k => F70c4_eq k _ _ _) ?_
        simp only [lt_false (Nat.le_refl l.length), Bool.false_eq_true, if_false]
        rcases Nat.eq_zero_or_pos l.length with h0 | h0
        · have c0 : ((l.length : Int) == 0) = true := by simp [h0]
          simp only [c0, if_true, q0 h0]
          exact Ev.now _
        · obtain ⟨n, hn⟩ : ∃ n, l.length = n + 1 := ⟨l.length - 1, by omega⟩
          have c0 : ((l.length : Int) == 0) = false := len0_false h0
          have hlt : n < l.length := by omega
          simp only [c0, Bool.false_eq_true, if_false, pred_len hn (by omega), ge0, if_true, Int.toNat_natCast, getI_of hlt, Option.bind_some, q1 n hn]
          exact Ev.now _)
      unfold rangeOk
      cases hall : (List.range l.length).all (fun i => within (l.getD i 0) 0 9999) with
      | true =>
        rw [hall] at this
        simpa using this
      | false =>
        rw [hall] at this
        simpa using this
    unfold bOk lastOk
    simp only [c16, h16, decide_true, Bool.true_and, Bool.false_eq_true, if_false]
    by_cases h0 : l.length = 0
    · have c0 : ((l.length : Int) == 0) = true := by simp [h0]
      cases neg with
      | true =>
        simp only [c0, h0, if_true, Bool.not_true, Bool.and_false]
        exact Ev.now _
      | false =>
        have := loop (q := true) (fun _ => rfl) (fun n hn => by omega)
        simpa only [h0, if_true, Bool.not_false, Bool.false_eq_true, if_false] using this
    · have c0 : ((l.length : Int) == 0) = false := len0_false (Nat.pos_of_ne_zero h0)
      have := loop (q := (l.getD (l.length - 1) 0 != 0)) (fun e => absurd e h0) (fun n hn => by rw [hn]; rfl)
      cases neg with
      | true => simpa only [c0, h0, if_true, Bool.false_eq_true, if_false] using this
      | false => simpa only [h0, Bool.false_eq_true, if_false] using this
  · have c16 : decide ((l.length : Int) > 16) = true := decide_eq_true (by omega)
    unfold bOk
    simp only [c16, h16, decide_false, Bool.false_and, if_true]
    exact Ev.now _
end Go.Proofs.YtennmjbdmglebaaGreatDoor.R
end

section
/-! Rf, decimals: compared; the law's helpers. -/
set_option autoImplicit false
namespace Go.Proofs.YtennmjbdmglebaaGreatDoor.R
open Go.Rf
theorem DecOk_ev (neg : Bool) (l : List Int) (s : Int) (h : l.length ≤ 1048576) : Ev (fun k => F33 k neg l s) ((decOk neg l s, ()), (((), (), (), ()), ())) := by
  refine Ev.step 2 (fun k => F33_eq k neg l s) (Ev.bind (BigOk_ev neg l h) ?_)
  unfold decOk
  cases hb : bOk neg l with
  | false => exact Ev.now _
  | true =>
    obtain ⟨h16, hr, _, _⟩ := bOk_of hb
    simp only [if_true, Bool.true_and]
    refine Ev.bind (digits_ev hr (by omega)) ?_
    cases decide (long l ≤ 30) with
    | false => exact Ev.now _
    | true =>
      simp only [if_true, Bool.true_and]
      exact Ev.bind (in_ev _ _ _) (Ev.now _)
theorem l2Ok_ev (neg : Bool) (l : List Int) (s : Int) (h : l.length ≤ 1048576) : Ev (fun k => F40 k neg l s) ((decOk neg l s, ()), (((), (), (), ()), ())) := by
  refine Ev.step 2 (fun k => F40_eq k neg l s) (Ev.bind (l1Ok_ev neg l h) ?_)
  unfold decOk
  cases hb : bOk neg l with
  | false => exact Ev.now _
  | true =>
    obtain ⟨h16, hr, _, _⟩ := bOk_of hb
    simp only [if_true, Bool.true_and]
    refine Ev.bind (l1Long_ev hr (by omega)) ?_
    cases decide (long l ≤ 30) with
    | false => exact Ev.now _
    | true =>
      simp only [if_true, Bool.true_and]
      exact Ev.bind (l1In_ev _ _ _) (Ev.now _)
theorem decs_ev (n1 : Bool) (l1 : List Int) (s1 : Int) (n2 : Bool) (l2 : List Int) (s2 : Int) (h1 : l1.length ≤ 1048576) (h2 : l2.length ≤ 1048576) : Ev (fun k => F45 k n1 l1 s1 n2 l2 s2) ((decOk n1 l1 s1 && decOk n2 l2 s2, ()), (((), (), (), ()), ((), (), (), ()), ())) := by
  refine Ev.step 2 (fun k => F45_eq k _ _ _ _ _ _) (Ev.bind (DecOk_ev n1 l1 s1 h1) ?_)
  cases decOk n1 l1 s1 with
  | false => exact Ev.now _
  | true => exact Ev.bind (DecOk_ev n2 l2 s2 h2) (Ev.now _)
/-- a decimal in order: its number -/
def num (l : List Int) : Nat := (VI l).toNat
theorem num_spec {l : List Int} (h : InR l) : VI l = (num l : Int) := by
  have := VI_nonneg h
  unfold num
  omega
theorem digs_num {l : List Int} (h : InR l) (t : Trim l) : digs (num l) = l := digs_VI h t
theorem num_pos {neg : Bool} {l : List Int} (h : bOk neg l = true) (hn : neg = true) : 0 < num l := by
  obtain ⟨_, hr, ht, h0⟩ := bOk_of h
  have := VI_pos hr ht (fun e => by have := h0 e; rw [hn] at this; cases this)
  have := num_spec hr
  omega
theorem num_lt {l : List Int} (h : InR l) (hl : l.length ≤ 16) : num l < 10000 ^ 16 := by
  have h1 : VI l < ((10000 ^ l.length : Nat) : Int) := by
    rw [Int.natCast_pow]
    exact VI_lt h
  have h2 := num_spec h
  have h3 : (10000 : Nat) ^ l.length ≤ 10000 ^ 16 := Nat.pow_le_pow_right (by omega) hl
  exact Nat.lt_of_lt_of_le (by omega) h3
theorem at_len {V m : Nat} (hV : V < 10000 ^ 16) (hm : m ≤ 24) : (digs (V * 10 ^ m)).length ≤ 40 := by
  refine digs_len_le ?_
  have h1 : 10 ^ m ≤ 10 ^ 24 := Nat.pow_le_pow_right (by omega) hm
  have h2 : V * 10 ^ m ≤ V * 10 ^ 24 := Nat.mul_le_mul_left V h1
  have h3 : V * 10 ^ 24 < 10000 ^ 16 * 10 ^ 24 := Nat.mul_lt_mul_of_pos_right hV (Nat.pow_pos (by omega))
  have h4 : 10000 ^ 16 * 10 ^ 24 ≤ 10000 ^ 40 := by decide
  omega
/-- a sum with signs -/
def sSum (na : Bool) (A : Nat) (nb : Bool) (B : Nat) : Bool × Nat := if na = nb then (na, A + B) else if B ≤ A then (na, A - B) else (nb, B - A)
theorem cmpI_ge {A B : Nat} : decide (cmpI A B ≥ 0) = decide (B ≤ A) := by
  unfold cmpI
  split
  · rw [decide_eq_false (by omega), decide_eq_false (by omega)]
  · split
    · rw [decide_eq_true (by omega), decide_eq_true (by omega)]
    · rw [decide_eq_true (by omega), decide_eq_true (by omega)]
theorem sAdd_ev {na nb : Bool} {A B : Nat} (la : (digs A).length ≤ 100000) (lb : (digs B).length ≤ 100000) : Ev (fun k => F47 k na (digs A) nb (digs B)) ((((sSum na A nb B).1, digs (sSum na A nb B).2, ()), ()), (((), (), ()), ((), (), ()), ())) := by
  obtain ⟨ra, ta, va⟩ := digs_spec A
  obtain ⟨rb, tb, vb⟩ := digs_spec B
  refine Ev.step 2 (fun k => F47_eq k _ _ _ _) ?_
  unfold sSum
  by_cases hn : na = nb
  · subst hn
    have hadd := add_ev ra rb la lb
    have e : (VI (digs A) + VI (digs B)).toNat = A + B := by rw [va, vb]; omega
    rw [e] at hadd
    simp only [beq_self_eq_true, if_true]
    exact Ev.bind hadd (Ev.now _)
  · have c : (na == nb) = false := by simp [hn]
    simp only [c, hn, Bool.false_eq_true, if_false]
    refine Ev.bind (cmp_ev ra rb ta tb va vb (by omega) (by omega)) ?_
    simp only [cmpI_ge]
    by_cases hle : B ≤ A
    · have hsub := sub_ev ra rb tb la (by rw [va, vb]; omega)
      have e : (VI (digs A) - VI (digs B)).toNat = A - B := by rw [va, vb]; omega
      rw [e] at hsub
      simp only [hle, decide_true, if_true]
      exact Ev.bind hsub (Ev.now _)
    · have hsub := sub_ev rb ra ta lb (by rw [va, vb]; omega)
      have e : (VI (digs B) - VI (digs A)).toNat = B - A := by rw [va, vb]; omega
      rw [e] at hsub
      simp only [hle, decide_false, Bool.false_eq_true, if_false]
      exact Ev.bind hsub (Ev.now _)
theorem sign_ev {neg : Bool} {A : Nat} : Ev (fun k => F60 k neg (digs A)) ((if A = 0 then 0 else if neg = true then -1 else 1, ()), (((), (), ()), ())) := by
  by_cases h : A = 0
  · subst h
    rw [digs_zero, if_pos rfl]
    exact Ev.step 2 (fun k => F60_eq k _ _) (Ev.now _)
  · refine Ev.step 2 (fun k => F60_eq k _ _) ?_
    have c : (((digs A).length : Int) == 0) = false := len0_false (Nat.pos_of_ne_zero (fun e => h (digs_nil.1 (List.eq_nil_of_length_eq_zero e))))
    simp only [c, h, Bool.false_eq_true, if_false]
    cases neg with
    | true => exact Ev.now _
    | false => exact Ev.now _
/-- numbers with signs compared -/
def sCmp (na : Bool) (A : Nat) (nb : Bool) (B : Nat) : Int := if na = nb then if na = true then cmpI B A else cmpI A B else if na = true then -1 else 1
theorem sSum_sCmp {na nb : Bool} {A B : Nat} (ha : na = true → 0 < A) (hb : nb = true → 0 < B) : (if (sSum na A (!nb) B).2 = 0 then 0 else if (sSum na A (!nb) B).1 = true then -1 else 1 : Int) = sCmp na A nb B := by
  unfold sSum sCmp
  cases na with
  | true =>
    have h1 := ha rfl
    cases nb with
    | true =>
      simp only [Bool.not_true, Bool.true_eq_false, if_false, if_true]
      rcases Nat.lt_trichotomy A B with h | h | h
      · rw [if_neg (show ¬ B ≤ A by omega), cmpI_gt h]
        simp only [Bool.false_eq_true, if_false]
        rw [if_neg (by omega)]
      · subst h
        simp [cmpI_eq]
      · rw [if_pos (show B ≤ A by omega), cmpI_lt h]
        simp only [if_true]
        rw [if_neg (by omega)]
    | false =>
      simp only [Bool.not_false, if_true, Bool.true_eq_false, if_false]
      rw [if_neg (by omega)]
  | false =>
    cases nb with
    | true =>
      have h2 := hb rfl
      simp only [Bool.not_true, if_true, Bool.false_eq_true, if_false]
      rw [if_neg (by omega)]
    | false =>
      simp only [Bool.not_false, Bool.false_eq_true, if_false, if_true]
      rcases Nat.lt_trichotomy A B with h | h | h
      · rw [if_neg (show ¬ B ≤ A by omega), cmpI_lt h]
        simp only [if_true]
        rw [if_neg (by omega)]
      · subst h
        simp [cmpI_eq]
      · rw [if_pos (show B ≤ A by omega), cmpI_gt h]
        simp only [Bool.false_eq_true, if_false]
        rw [if_neg (by omega)]
/-- how decimals in order compare -/
def dCmp (n1 : Bool) (l1 : List Int) (s1 : Nat) (n2 : Bool) (l2 : List Int) (s2 : Nat) : Int := sCmp n1 (num l1 * 10 ^ (max s1 s2 - s1)) n2 (num l2 * 10 ^ (max s1 s2 - s2))
section
variable {n1 n2 : Bool} {l1 l2 : List Int} {s1 s2 : Nat}
end
/-! ### the law's helpers -/
end Go.Proofs.YtennmjbdmglebaaGreatDoor.R
end

section
/-! Rf, decimals: added; fresh memory. -/
set_option autoImplicit false
set_option linter.unusedSimpArgs false
namespace Go.Proofs.YtennmjbdmglebaaGreatDoor.R
open Go.Rf
theorem VI_take_succ' {l : List Int} {i : Nat} : VI (l.take (i + 1)) = VI (l.take i) + l.getD i 0 * 10000 ^ i := by
  rcases Nat.lt_or_ge i l.length with h | h
  · exact VI_take_succ h
  · rw [List.take_of_length_le h, List.take_of_length_le (by omega), List.getD_eq_getElem?_getD, List.getElem?_eq_none h]
    simp
theorem getD0 {l : List Int} (h : InR l) (i : Nat) : 0 ≤ l.getD i 0 ∧ l.getD i 0 ≤ 9999 := by
  rcases Nat.lt_or_ge i l.length with h1 | h1
  · exact h.at h1
  · rw [List.getD_eq_getElem?_getD, List.getElem?_eq_none h1]
    exact ⟨Int.le_refl _, by decide⟩
theorem inrSnoc {l : List Int} {d : Int} (h : InR l) (hd : 0 ≤ d ∧ d ≤ 9999) : InR (l ++ [d]) := fun x hx => by
  rcases List.mem_append.1 hx with hx | hx
  · exact h x hx
  · rw [List.mem_singleton.1 hx]
    exact hd
theorem VI_snoc (l : List Int) (d : Int) : VI (l ++ [d]) = VI l + d * 10000 ^ l.length := by
  rw [VI_append]
  show VI l + 10000 ^ l.length * (d + 10000 * 0) = _
  grind
section
variable {a b : List Int}
theorem l1AddAbs_ev (ha : InR a) (hb : InR b) (la : a.length ≤ 100000) (lb : b.length ≤ 100000) : Ev (fun k => F94 k a b) ((digs (VI a + VI b).toNat, ()), ((), (), ())) := by
  obtain ⟨M, hM⟩ : ∃ M, M = max a.length b.length := ⟨_, rfl⟩
  have key : ∀ (m i : Nat) (x : List Int) (c : Int), i + m = M + 1 → x.length = i → VI x + c * 10000 ^ i = VI (a.take i) + VI (b.take i) → InR x → (0 ≤ c ∧ c ≤ 1) → (i = M + 1 → c = 0) → Ev (fun k => F94c4 k a b x c (i : Int)) ((digs (VI a + VI b).toNat, ()), ((), (), ())) := by
    intro m
    induction m with
    | zero =>
      intro i x c hi hx hV hr hc hz
      have hc0 := hz (by omega)
      subst hc0
      have h0 : decide ((0 : Int) > 0) = false := by decide
      refine Ev.step 1 (fun k => F94c4_eq k _ _ _ _ _) ?_
      simp only [lt_false (show a.length ≤ i by omega), lt_false (show b.length ≤ i by omega), h0, Bool.false_eq_true, if_false]
      have := l1Trim_ev hr (by omega)
      rw [List.take_of_length_le (by omega), List.take_of_length_le (by omega)] at hV
      have e : VI x = VI a + VI b := by omega
      rw [e] at this
      exact Ev.bind this (Ev.now _)
    | succ m ih =>
      intro i x c hi hx hV hr hc _
      have ra := getD0 ha i
      have rb := getD0 hb i
      obtain ⟨v, hv⟩ : ∃ v, v = a.getD i 0 + b.getD i 0 + c := ⟨_, rfl⟩
      have w1 : IntKind.i64.wrap (a.getD i 0 + b.getD i 0) = a.getD i 0 + b.getD i 0 := wrap64 (by omega) (by omega)
      have w2 : IntKind.i64.wrap (a.getD i 0 + b.getD i 0 + c) = v := by rw [← hv]; exact wrap64 (by omega) (by omega)
      have w3 : IntKind.i64.wrap (v / 10000) = v / 10000 := wrap64 (by omega) (by omega)
      have hcap : decide (x.length + [v % 10000].length ≤ 17592186044416) = true := decide_eq_true (by simp; omega)
      have step : ∀ {q}, (i < a.length ∨ i < b.length ∨ c > 0) → Ev (fun k => F94c4 k a b (x ++ [v % 10000]) (v / 10000) ((i + 1 : Nat) : Int)) q → Ev (fun k => F94c4 k a b x c (i : Int)) q := by
        intro q hor hq
        refine Ev.step 1 (fun k => F94c4_eq k _ _ _ _ _) ?_
        by_cases h1 : i < a.length
        · simp only [lt_true h1, if_true]
          refine Ev.bind limb_ev (Ev.bind limb_ev ?_)
          simp only [w1, w2, w3, tdiv_pos (show 0 ≤ v by omega), tmod_pos (show 0 ≤ v by omega), hcap, if_true, wrap_succ (show i < 9223372036854775807 by omega)]
          exact hq
        · by_cases h2 : i < b.length
          · simp only [lt_false (Nat.le_of_not_lt h1), lt_true h2, Bool.false_eq_true, if_false, if_true]
            refine Ev.bind limb_ev (Ev.bind limb_ev ?_)
            simp only [w1, w2, w3, tdiv_pos (show 0 ≤ v by omega), tmod_pos (show 0 ≤ v by omega), hcap, if_true, wrap_succ (show i < 9223372036854775807 by omega)]
            exact hq
          · have h3 : decide (c > 0) = true := decide_eq_true (by omega)
            simp only [lt_false (Nat.le_of_not_lt h1), lt_false (Nat.le_of_not_lt h2), h3, Bool.false_eq_true, if_false, if_true]
            refine Ev.bind limb_ev (Ev.bind limb_ev ?_)
            simp only [w1, w2, w3, tdiv_pos (show 0 ≤ v by omega), tmod_pos (show 0 ≤ v by omega), hcap, if_true, wrap_succ (show i < 9223372036854775807 by omega)]
            exact hq
      by_cases hor : i < a.length ∨ i < b.length ∨ c > 0
      · refine step hor (ih (i + 1) _ _ (by omega) (by simp; omega) ?_ (inrSnoc hr (by omega)) (by omega) (fun h => ?_))
        · rw [VI_snoc, hx, VI_take_succ', VI_take_succ', Int.pow_succ]
          have e : v = 10000 * (v / 10000) + v % 10000 := by omega
          grind
        · have h1 : a.getD i 0 = 0 := by rw [List.getD_eq_getElem?_getD, List.getElem?_eq_none (by omega)]; rfl
          have h2 : b.getD i 0 = 0 := by rw [List.getD_eq_getElem?_getD, List.getElem?_eq_none (by omega)]; rfl
          omega
      · have hc0 : c = 0 := by omega
        subst hc0
        have h0 : decide ((0 : Int) > 0) = false := by decide
        refine Ev.step 1 (fun k => F94c4_eq k _ _ _ _ _) ?_
        simp only [lt_false (show a.length ≤ i by omega), lt_false (show b.length ≤ i by omega), h0, Bool.false_eq_true, if_false]
        have := l1Trim_ev hr (by omega)
        rw [List.take_of_length_le (by omega), List.take_of_length_le (by omega)] at hV
        have e : VI x = VI a + VI b := by omega
        rw [e] at this
        exact Ev.bind this (Ev.now _)
  exact Ev.step 2 (fun k => F94_eq k a b) (key (M + 1) 0 [] 0 (by omega) rfl (by simp [VI]) InR.nil (by omega) (fun h => by omega))
theorem l1SubAbs_ev (ha : InR a) (hb : InR b) (tb : Trim b) (la : a.length ≤ 100000) (hle : VI b ≤ VI a) : Ev (fun k => F109 k a b) ((digs (VI a - VI b).toNat, ()), ((), (), ())) := by
  have hlen : b.length ≤ a.length := by
    rcases Nat.lt_or_ge a.length b.length with h | h
    · have := VI_len_lt ha hb tb h
      omega
    · exact h
  have key : ∀ (m i : Nat) (x : List Int) (c : Int), i + m = a.length → x.length = i → VI x - c * 10000 ^ i = VI (a.take i) - VI (b.take i) → InR x → (0 ≤ c ∧ c ≤ 1) → Ev (fun k => F109c4 k a b x c (i : Int)) ((digs (VI a - VI b).toNat, ()), ((), (), ())) := by
    intro m
    induction m with
    | zero =>
      intro i x c hi hx hV hr hc
      have hia : i = a.length := by omega
      subst hia
      rw [List.take_of_length_le (Nat.le_refl _), List.take_of_length_le hlen] at hV
      have hlt := VI_lt hr
      rw [hx] at hlt
      have hc0 : c = 0 := by
        rcases Int.lt_or_le 0 c with h | h
        · exfalso
          have : c = 1 := by omega
          subst this
          omega
        · omega
      subst hc0
      refine Ev.step 1 (fun k => F109c4_eq k _ _ _ _ _) ?_
      simp only [lt_false (Nat.le_refl a.length), Bool.false_eq_true, if_false]
      have := l1Trim_ev hr (by omega)
      have e : VI x = VI a - VI b := by omega
      rw [e] at this
      exact Ev.bind this (Ev.now _)
    | succ m ih =>
      intro i x c hi hx hV hr hc
      have hia : i < a.length := by omega
      have ra := ha.at hia
      have rb := getD0 hb i
      have w1 : IntKind.i64.wrap (a.getD i 0 - b.getD i 0) = a.getD i 0 - b.getD i 0 := wrap64 (by omega) (by omega)
      have w2 : IntKind.i64.wrap (a.getD i 0 - b.getD i 0 - c) = a.getD i 0 - b.getD i 0 - c := wrap64 (by omega) (by omega)
      have w3 : IntKind.i64.wrap (a.getD i 0 - b.getD i 0 - c + 10000) = a.getD i 0 - b.getD i 0 - c + 10000 := wrap64 (by omega) (by omega)
      refine Ev.step 1 (fun k => F109c4_eq k _ _ _ _ _) ?_
      simp only [lt_true hia, ge0, if_true, Int.toNat_natCast, getI_of hia, Option.bind_some]
      refine Ev.bind limb_ev ?_
      simp only [w1, w2, w3]
      by_cases hneg : a.getD i 0 - b.getD i 0 - c < 0
      · simp only [hneg, decide_true, if_true]
        refine Ev.step 1 (fun k => F109c11_eq k _ _ _ _ _ _) ?_
        have hcap : decide (x.length + [a.getD i 0 - b.getD i 0 - c + 10000].length ≤ 17592186044416) = true := decide_eq_true (by simp; omega)
        simp only [hcap, if_true, wrap_succ (show i < 9223372036854775807 by omega)]
        refine ih (i + 1) _ _ (by omega) (by simp; omega) ?_ (inrSnoc hr (by omega)) (by omega)
        rw [VI_snoc, hx, VI_take_succ', VI_take_succ', Int.pow_succ]
        grind
      · simp only [hneg, decide_false, Bool.false_eq_true, if_false]
        refine Ev.step 1 (fun k => F109c11_eq k _ _ _ _ _ _) ?_
        have hcap : decide (x.length + [a.getD i 0 - b.getD i 0 - c].length ≤ 17592186044416) = true := decide_eq_true (by simp; omega)
        simp only [hcap, if_true, wrap_succ (show i < 9223372036854775807 by omega)]
        refine ih (i + 1) _ _ (by omega) (by simp; omega) ?_ (inrSnoc hr (by omega)) (by omega)
        rw [VI_snoc, hx, VI_take_succ', VI_take_succ']
        grind
  exact Ev.step 2 (fun k => F109_eq k a b) (key a.length 0 [] 0 (by omega) rfl (by simp [VI]) InR.nil (by omega))
end
def made (neg : Bool) (n : Nat) (s : Int) : (Bool × List Int × Int × Unit) × Int × Unit := if long (digs n) > 30 then ((false, [], 0, ()), 3, ()) else ((neg && decide (((digs n).length : Int) > 0), digs n, s, ()), 0, ())
theorem l2Make_ev {neg : Bool} {n : Nat} {s : Int} (hl : (digs n).length ≤ 100000) : Ev (fun k => F72 k neg (digs n) s) (made neg n s, ((), (), (), ())) := by
  refine Ev.step 2 (fun k => F72_eq k _ _ _) (Ev.bind (l1Long_ev (digs_spec n).1 (by omega)) ?_)
  unfold made
  by_cases h : long (digs n) > 30
  · simp only [h, decide_true, if_true]
    exact Ev.now _
  · simp only [h, decide_false, Bool.false_eq_true, if_false]
    cases neg with
    | true => exact Ev.now _
    | false => exact Ev.now _
theorem clone_int_ev (l : List Int) (h : l.length ≤ 1000000) : Ev (fun k => F78 k l) ((l, ()), ((), ())) := by
  have h1 : Ev (fun k => F97 k l) ((l, ()), ((), ())) := by
    refine Ev.step 2 (fun k => F97_eq k l) ?_
    have hc : decide (([] : List Int).length + l.length ≤ 17592186044416) = true := decide_eq_true (by simp; omega)
    simp only [hc, if_true, List.nil_append]
    cases l with
    | nil =>
      rw [bothK_same]
      exact Ev.now _
    | cons x l =>
      have : emptyL (x :: l) = false := rfl
      rw [this, bothK_false]
      exact Ev.now _
  have h2 : Ev (fun k => F96 k l) ((l, ()), ((), ())) := by
    refine Ev.step 2 (fun k => F96_eq k l) ?_
    simp only [beq_self_eq_true, Bool.and_self, if_true]
    exact Ev.now _
  exact Ev.step 2 (fun k => F78_eq k l) (Ev.bind h1 (Ev.bind h2 (Ev.now _)))
theorem figs_ge : ∀ {l : List Int}, InR l → l ≠ [] → 4 * l.length ≤ (figs l).length + 4
  | [], _, h => absurd rfl h
  | [d], _, _ => by simp
  | d :: e :: l, h, _ => by
    have h1 := figs_ge h.cons.2 (by simp)
    have h2 := fig4_len h.cons.1
    rw [figs, List.length_append, h2, List.length_cons]
    omega
theorem long_small {l : List Int} (h : InR l) (hl : ¬ long l > 30) : l.length ≤ 16 := by
  unfold long at hl
  by_cases h0 : l.length = 0
  · omega
  · rw [if_neg h0, textL_pos (fun e => h0 (by rw [e]; rfl)), bytes_size] at hl
    have := figs_ge h (fun e => h0 (by rw [e]; rfl))
    omega
theorem dec_ev {neg : Bool} {n : Nat} {s : Int} (hl : (digs n).length ≤ 100000) : Ev (fun k => F35 k neg (digs n) s) (made neg n s, (((), (), ()), (), ())) := by
  obtain ⟨hr, ht, hv⟩ := digs_spec n
  have htr := trim_ev hr (show (digs n).length ≤ 1000000 by omega)
  have e : digs (VI (digs n)).toNat = digs n := by rw [hv]; rfl
  rw [e] at htr
  refine Ev.step 2 (fun k => F35_eq k _ _ _) (Ev.bind htr (Ev.bind (digits_ev hr (show (digs n).length ≤ 1000000 by omega)) ?_))
  unfold made
  by_cases h : long (digs n) > 30
  · simp only [h, decide_true, if_true]
    exact Ev.now _
  · have h16 := long_small hr h
    have c16 : decide (((digs n).length : Int) > 16) = false := decide_eq_false (by omega)
    have hbig : Ev (fun k => F49 k neg (digs n)) (((neg && decide (((digs n).length : Int) > 0), digs n, ()), true, ()), ((), (), ())) := by
      refine Ev.step 2 (fun k => F49_eq k _ _) (Ev.bind htr ?_)
      simp only [c16, Bool.false_eq_true, if_false]
      cases neg with
      | true =>
        simp only [if_true, Bool.true_and]
        exact Ev.bind (clone_int_ev _ (by omega)) (Ev.now _)
      | false =>
        simp only [Bool.false_eq_true, if_false, Bool.false_and]
        exact Ev.bind (clone_int_ev _ (by omega)) (Ev.now _)
    simp only [h, decide_false, Bool.false_eq_true, if_false]
    exact Ev.bind hbig (Ev.now _)
theorem sSum_lt {na nb : Bool} {A B C : Nat} (ha : A < C) (hb : B < C) : (sSum na A nb B).2 < 2 * C := by
  unfold sSum
  split
  · show A + B < _
    omega
  · split
    · show A - B < _
      omega
    · show B - A < _
      omega
theorem at_lt {V m : Nat} (hV : V < 10000 ^ 16) (hm : m ≤ 24) : V * 10 ^ m < 10000 ^ 40 := by
  have h1 : 10 ^ m ≤ 10 ^ 24 := Nat.pow_le_pow_right (by omega) hm
  have h2 : V * 10 ^ m ≤ V * 10 ^ 24 := Nat.mul_le_mul_left V h1
  have h3 : V * 10 ^ 24 < 10000 ^ 16 * 10 ^ 24 := Nat.mul_lt_mul_of_pos_right hV (Nat.pow_pos (by omega))
  have h4 : 10000 ^ 16 * 10 ^ 24 ≤ 10000 ^ 40 := by decide
  omega
theorem sum_len {na nb : Bool} {A B : Nat} (ha : A < 10000 ^ 40) (hb : B < 10000 ^ 40) : (digs (sSum na A nb B).2).length ≤ 41 := by
  refine digs_len_le ?_
  have h1 := sSum_lt (na := na) (nb := nb) ha hb
  have h2 : 2 * 10000 ^ 40 ≤ 10000 ^ 41 := by
    rw [Nat.pow_succ]
    have : 0 < 10000 ^ 40 := Nat.pow_pos (by omega)
    omega
  omega
section
variable {n1 n2 : Bool} {l1 l2 : List Int} {s1 s2 : Nat}
end
/-! ### marks -/
def marks (b : Int) (l : List Int) : List Int := (List.range l.length).map fun (i : Nat) => b + (i : Int)
theorem marks_len (b : Int) (l : List Int) : (marks b l).length = l.length := by simp [marks]
theorem marks_at {b : Int} {l : List Int} {i : Nat} (h : i < l.length) : (marks b l).getD i 0 = b + i := by
  rw [List.getD_eq_getElem?_getD]
  unfold marks
  rw [List.getElem?_map, List.getElem?_range h]
  rfl
end Go.Proofs.YtennmjbdmglebaaGreatDoor.R
end

section
/-! Rf: division of limbs: both divisions come to the quotient and the rest. -/
set_option autoImplicit false
set_option linter.unusedSimpArgs false
set_option linter.unusedVariables false
namespace Go.Proofs.YtennmjbdmglebaaGreatDoor.R
open Go.Rf
theorem u64_small {x : Int} (h0 : 0 ≤ x) (h1 : x ≤ 9999) : IntKind.u64.wrap x = x := by
  unfold IntKind.wrap
  simp [IntKind.bits, IntKind.signed]
  omega
theorem mid_eq {lo hi : Nat} (h : hi ≤ 10000) (hl : lo ≤ 10000) : IntKind.i64.wrap ((IntKind.i64.wrap ((IntKind.i64.wrap ((lo : Int) + (hi : Int))) + (1 : Int))).tdiv (2 : Int)) = (((lo + hi + 1) / 2 : Nat) : Int) := by
  rw [wrap64 (n := (lo : Int) + (hi : Int)) (by omega) (by omega), wrap64 (n := (lo : Int) + (hi : Int) + 1) (by omega) (by omega), Int.tdiv_eq_ediv_of_nonneg (by omega), wrap64 (by omega) (by omega)]
  omega
theorem mid_eq0 {lo hi : Nat} (h : hi ≤ 10000) (hl : lo ≤ 10000) : IntKind.i64.wrap ((IntKind.i64.wrap ((lo : Int) + (hi : Int))).tdiv (2 : Int)) = (((lo + hi) / 2 : Nat) : Int) := by
  rw [wrap64 (n := (lo : Int) + (hi : Int)) (by omega) (by omega), Int.tdiv_eq_ediv_of_nonneg (by omega), wrap64 (by omega) (by omega)]
  omega
theorem limbsOf_ev {n : Nat} (h : n ≤ 9999) : Ev (fun k => F50 k (n : Int)) ((digs n, ()), ((), ())) := by
  refine Ev.step 2 (fun k => F50_eq k _) ?_
  have z : ∀ x : List Int, Ev (fun k => F50c2 k (0 : Int) x) ((x, ()), ((), ())) := fun x => Ev.step 1 (fun k => F50c2_eq k _ _) (Ev.now _)
  by_cases h0 : n = 0
  · subst h0
    rw [digs_zero]
    exact z []
  · refine Ev.step 1 (fun k => F50c2_eq k _ _) ?_
    have c1 : decide ((n : Int) > 0) = true := decide_eq_true (by omega)
    have c2 : IntKind.i64.wrap ((n : Int).tmod 10000) = (n : Int) := by
      rw [tmod_pos (by omega), Int.emod_eq_of_lt (by omega) (by omega)]
      exact wrap64 (by omega) (by omega)
    have c3 : IntKind.u64.wrap ((n : Int).tdiv 10000) = 0 := by
      rw [tdiv_pos (by omega), Int.ediv_eq_zero_of_lt (by omega) (by omega)]
      exact u64_small (by omega) (by omega)
    have c4 : decide (([] : List Int).length + [(n : Int)].length ≤ 17592186044416) = true := by simp
    simp only [c1, c2, c3, c4, if_true, List.nil_append]
    rw [digs_small (by omega) (by omega)]
    exact z _
theorem digs_InR (n : Nat) : InR (digs n) := (digs_spec n).1
theorem digs_Trim (n : Nat) : Trim (digs n) := (digs_spec n).2.1
theorem InR.one {d : Int} (h : 0 ≤ d ∧ d ≤ 9999) : InR [d] := InR.mk h InR.nil
theorem VI_one (d : Int) : VI [d] = d := by
  show d + 10000 * 0 = d
  omega
theorem cmpI_le {a b : Nat} : decide (cmpI a b ≤ 0) = decide (a ≤ b) := by
  unfold cmpI
  split
  · rw [decide_eq_true (by omega), decide_eq_true (by omega)]
  · split
    · rw [decide_eq_true (by omega), decide_eq_true (by omega)]
    · rw [decide_eq_false (by omega), decide_eq_false (by omega)]
section
variable {b : List Int} {B X : Nat}
theorem mulN (hb : InR b) (lb : b.length ≤ 1000) (hB : VI b = (B : Int)) {n : Nat} (hn : n ≤ 9999) : Ev (fun k => F56 k b (digs n)) ((digs (B * n), ()), ((), (), ())) := by
  have := mul_ev hb (digs_InR n) (by omega) (Nat.le_trans (digs_len_le (m := 1) (by omega)) (by omega))
  rw [hB, VI_digs, show ((B : Int) * (n : Int)).toNat = B * n by rw [← Int.natCast_mul]; rfl] at this
  exact this
theorem l1MulN (hb : InR b) (lb : b.length ≤ 1000) (hB : VI b = (B : Int)) {c : List Int} {n : Nat} (hc : InR c) (lc : c.length ≤ 1) (hn : VI c = (n : Int)) : Ev (fun k => F85 k b c) ((digs (B * n), ()), ((), (), ())) := by
  have := l1MulAbs_ev hb hc (by omega) (by omega)
  rw [hB, hn, show ((B : Int) * (n : Int)).toNat = B * n by rw [← Int.natCast_mul]; rfl] at this
  exact this
theorem BN_len (hb : InR b) (lb : b.length ≤ 1000) (hB : VI b = (B : Int)) {n : Nat} (hn : n ≤ 10000) : (digs (B * n)).length ≤ 1001 := by
  have h1 := VI_lt hb
  rw [hB] at h1
  have h2 : B < 10000 ^ b.length := by
    have : ((B : Nat) : Int) < ((10000 ^ b.length : Nat) : Int) := by rw [Int.natCast_pow]; exact h1
    omega
  have h3 : B * n < 10000 ^ (b.length + 1) := by
    rw [Nat.pow_succ]
    exact Nat.lt_of_le_of_lt (Nat.mul_le_mul_left B hn) (Nat.mul_lt_mul_of_pos_right h2 (by omega))
  have := digs_len_le h3
  omega
theorem cmpN (hb : InR b) (lb : b.length ≤ 1000) (hB : VI b = (B : Int)) (lX : (digs X).length ≤ 2000) {n : Nat} (hn : n ≤ 10000) : Ev (fun k => F68 k (digs (B * n)) (digs X)) ((cmpI (B * n) X, ()), ((), (), ())) :=
  cmp_ev (digs_InR _) (digs_InR _) (digs_Trim _) (digs_Trim _) (VI_digs _) (VI_digs _) (by have := BN_len hb lb hB hn; omega) (by omega)
theorem l1CmpN (hb : InR b) (lb : b.length ≤ 1000) (hB : VI b = (B : Int)) {n : Nat} (hn : n ≤ 10000) : Ev (fun k => F93 k (digs (B * n)) (digs X)) ((cmpI (B * n) X, ()), ((), (), ())) :=
  l1CmpAbs_ev (digs_InR _) (digs_InR _) (digs_Trim _) (digs_Trim _) (VI_digs _) (VI_digs _) (by have := BN_len hb lb hB hn; omega)
theorem subN (hb : InR b) (lb : b.length ≤ 1000) (hB : VI b = (B : Int)) (lX : (digs X).length ≤ 2000) {n : Nat} (h : B * n ≤ X) : Ev (fun k => F77 k (digs X) (digs (B * n))) ((digs (X - B * n), ()), ((), (), ())) := by
  have := sub_ev (digs_InR X) (digs_InR (B * n)) (digs_Trim _) (by omega) (by rw [VI_digs, VI_digs]; omega)
  rw [VI_digs, VI_digs, show ((X : Int) - ((B * n : Nat) : Int)).toNat = X - B * n by omega] at this
  exact this
theorem l1SubN (lX : (digs X).length ≤ 2000) {n : Nat} (h : B * n ≤ X) : Ev (fun k => F109 k (digs X) (digs (B * n))) ((digs (X - B * n), ()), ((), (), ())) := by
  have := l1SubAbs_ev (digs_InR X) (digs_InR (B * n)) (digs_Trim _) (by omega) (by rw [VI_digs, VI_digs]; omega)
  rw [VI_digs, VI_digs, show ((X : Int) - ((B * n : Nat) : Int)).toNat = X - B * n by omega] at this
  exact this
theorem quo_of {n : Nat} (h1 : B * n ≤ X) (h2 : X < B * (n + 1)) : n = X / B := by
  have hp : 0 < B := by
    rcases Nat.eq_zero_or_pos B with h | h
    · subst h; omega
    · exact h
  symm
  rw [Nat.div_eq_iff hp]
  constructor
  · rw [Nat.mul_comm]; omega
  · rw [Nat.mul_comm]
    have : B * (n + 1) = B * n + B := Nat.mul_succ B n
    omega
/-- the search for one limb of the quotient -/
theorem fitI (hb : InR b) (lb : b.length ≤ 1000) (hB : VI b = (B : Int)) (lX : (digs X).length ≤ 2000) {out : List Int} {i : Nat} (hi : i < out.length) : ∀ (m lo hi : Nat), hi - lo ≤ m → lo ≤ hi → hi ≤ 9999 → B * lo ≤ X → X < B * (hi + 1) →
    Ev (fun k => F1018066c8 k b out (digs X) (i : Int) (lo : Int) (hi : Int)) ((), ((), (), (b, ()), (out.set i ((X / B : Nat) : Int), ()), (digs (X - B * (X / B)), ()), ())) := by
  have stop : ∀ n : Nat, n ≤ 9999 → B * n ≤ X → X < B * (n + 1) → Ev (fun k => F1018066c8 k b out (digs X) (i : Int) (n : Int) (n : Int)) ((), ((), (), (b, ()), (out.set i ((X / B : Nat) : Int), ()), (digs (X - B * (X / B)), ()), ())) := by
    intro n hn h1 h2
    have hq := quo_of h1 h2
    rw [← hq]
    refine Ev.step 1 (fun k => F1018066c8_eq k _ _ _ _ _ _) ?_
    simp only [lt_false (Nat.le_refl n), Bool.false_eq_true, if_false, ge0, lt_true hi, Bool.and_self, if_true, Int.toNat_natCast, getI_of hi, Option.bind_some, u64_small (show 0 ≤ (n : Int) by omega) (show (n : Int) ≤ 9999 by omega)]
    exact Ev.bind (limbsOf_ev hn) (Ev.bind (mulN hb lb hB hn) (Ev.bind (subN hb lb hB lX h1) (Ev.now _)))
  intro m
  induction m with
  | zero =>
    intro lo hi' hm hl hh h1 h2
    obtain rfl : lo = hi' := by omega
    exact stop lo hh h1 h2
  | succ m ih =>
    intro lo hi' hm hl hh h1 h2
    by_cases he : lo = hi'
    · subst he
      exact stop lo hh h1 h2
    · obtain ⟨c, hc⟩ : ∃ c, c = (lo + hi' + 1) / 2 := ⟨_, rfl⟩
      have hc1 : lo < c := by omega
      have hc2 : c ≤ hi' := by omega
      refine Ev.step 1 (fun k => F1018066c8_eq k _ _ _ _ _ _) ?_
      simp only [lt_true (show lo < hi' by omega), if_true, mid_eq (show hi' ≤ 10000 by omega) (show lo ≤ 10000 by omega), ← hc, u64_small (show 0 ≤ (c : Int) by omega) (show (c : Int) ≤ 9999 by omega)]
      refine Ev.bind (limbsOf_ev (by omega)) (Ev.bind (mulN hb lb hB (by omega)) (Ev.bind (cmpN hb lb hB lX (by omega)) ?_))
      simp only [cmpI_le]
      by_cases hle : B * c ≤ X
      · simp only [hle, decide_true, if_true]
        exact ih c hi' (by omega) hc2 hh hle h2
      · simp only [hle, decide_false, Bool.false_eq_true, if_false]
        have e1 : IntKind.i64.wrap ((c : Int) - 1) = ((c - 1 : Nat) : Int) := by
          rw [wrap64 (by omega) (by omega)]
          omega
        rw [e1]
        exact ih lo (c - 1) (by omega) (by omega) (by omega) h1 (by rw [show c - 1 + 1 = c by omega]; omega)
theorem fitS (hb : InR b) (lb : b.length ≤ 1000) (hB : VI b = (B : Int)) : ∀ (m lo hi : Nat), hi - lo ≤ m + 1 → lo < hi → hi ≤ 10000 → B * lo ≤ X → X < B * hi →
    Ev (fun k => F108c3 k (digs X) b (lo : Int) (hi : Int)) ((((X / B : Nat) : Int), ()), ((), (), ())) := by
  have stop : ∀ n : Nat, n ≤ 9999 → B * n ≤ X → X < B * (n + 1) → Ev (fun k => F108c3 k (digs X) b (n : Int) ((n + 1 : Nat) : Int)) ((((X / B : Nat) : Int), ()), ((), (), ())) := by
    intro n hn h1 h2
    rw [← quo_of h1 h2]
    refine Ev.step 1 (fun k => F108c3_eq k _ _ _ _) ?_
    have c1 : decide (IntKind.i64.wrap (((n + 1 : Nat) : Int) - (n : Int)) > 1) = false := by
      rw [wrap64 (by omega) (by omega)]
      exact decide_eq_false (by omega)
    simp only [c1, Bool.false_eq_true, if_false]
    exact Ev.now _
  intro m
  induction m with
  | zero =>
    intro lo hi' hm hl hh h1 h2
    obtain rfl : hi' = lo + 1 := by omega
    exact stop lo (by omega) h1 h2
  | succ m ih =>
    intro lo hi' hm hl hh h1 h2
    by_cases he : hi' = lo + 1
    · subst he
      exact stop lo (by omega) h1 h2
    · obtain ⟨c, hc⟩ : ∃ c, c = (lo + hi') / 2 := ⟨_, rfl⟩
      have hc1 : lo < c := by omega
      have hc2 : c < hi' := by omega
      refine Ev.step 1 (fun k => F108c3_eq k _ _ _ _) ?_
      have c1 : decide (IntKind.i64.wrap ((hi' : Int) - (lo : Int)) > 1) = true := by
        rw [wrap64 (by omega) (by omega)]
        exact decide_eq_true (by omega)
      simp only [c1, if_true, mid_eq0 (show hi' ≤ 10000 by omega) (show lo ≤ 10000 by omega), ← hc]
      refine Ev.bind (l1MulN hb lb hB (InR.one (by omega)) (by simp) (VI_one (c : Int))) (Ev.bind (l1CmpN hb lb hB (by omega)) ?_)
      simp only [cmpI_le]
      by_cases hle : B * c ≤ X
      · simp only [hle, decide_true, if_true]
        exact ih c hi' (by omega) hc2 hh hle h2
      · simp only [hle, decide_false, Bool.false_eq_true, if_false]
        exact ih lo c (by omega) hc1 (by omega) h1 (by omega)
end
end Go.Proofs.YtennmjbdmglebaaGreatDoor.R
end

section
/-! Rf: division of limbs: the loops over the limbs. -/
set_option autoImplicit false
set_option linter.unusedSimpArgs false
set_option linter.unusedVariables false
namespace Go.Proofs.YtennmjbdmglebaaGreatDoor.R
open Go.Rf
theorem VI_cons (d : Int) (l : List Int) : VI (d :: l) = d + 10000 * VI l := rfl
theorem VI_drop {a : List Int} {i : Nat} (h : i < a.length) : VI (a.drop i) = a.getD i 0 + 10000 * VI (a.drop (i + 1)) := by
  rw [List.drop_eq_getElem_cons h, VI_cons]
  congr 1
  rw [List.getD_eq_getElem?_getD, List.getElem?_eq_getElem h]
  rfl
theorem inrSet {l : List Int} (h : InR l) {i : Nat} {x : Int} (hx : 0 ≤ x ∧ x ≤ 9999) : InR (l.set i x) := fun d hd => by
  rcases List.mem_or_eq_of_mem_set hd with hd | hd
  · exact h d hd
  · rw [hd]; exact hx
theorem limbq {q : Nat} (h : q ≤ 9999) : 0 ≤ (q : Int) ∧ (q : Int) ≤ 9999 := ⟨by omega, by omega⟩
theorem ar1 {Q q : Nat} {V P : Int} (h : V = (Q : Int) * (P * 10000)) : V + ((q : Int) - 0) * P = ((10000 * Q + q : Nat) : Int) * P := by
  rw [h, show ((10000 * Q + q : Nat) : Int) = 10000 * (Q : Int) + q by omega]
  grind
theorem ar2 {C R : Nat} {x V P : Int} (hx : 0 ≤ x) : V + ((10000 * C + (x.toNat + 10000 * R) : Nat) : Int) * P = V + x * P + ((C + R : Nat) : Int) * (P * 10000) := by
  rw [show ((10000 * C + (x.toNat + 10000 * R) : Nat) : Int) = 10000 * (C : Int) + x + 10000 * (R : Int) by omega, show ((C + R : Nat) : Int) = (C : Int) + R by omega]
  grind
theorem ar3 {C R : Nat} {x : Int} (hx : 0 ≤ x) : ((10000 * C + (x.toNat + 10000 * R) : Nat) : Int) = x + 10000 * ((C + R : Nat) : Int) := by
  omega
section
variable {a b : List Int} {B : Nat}
/-- one limb more of the dividend -/
theorem round_len {R : Nat} {x : Int} (hR : (digs R).length ≤ 1001) (hx : 0 ≤ x ∧ x ≤ 9999) : (digs (x.toNat + 10000 * R)).length ≤ 1002 := by
  by_cases h : x.toNat + 10000 * R = 0
  · rw [h, digs_zero]; simp
  · rw [digs_pos h, List.length_cons, show (x.toNat + 10000 * R) / 10000 = R by omega]
    omega
theorem R_len (hb : InR b) (lb : b.length ≤ 1000) (hB : VI b = (B : Int)) {R : Nat} (h : R < B) : (digs R).length ≤ 1001 := by
  have h1 := VI_lt hb
  rw [hB] at h1
  have h2 : B < 10000 ^ b.length := by
    have : ((B : Nat) : Int) < ((10000 ^ b.length : Nat) : Int) := by rw [Int.natCast_pow]; exact h1
    omega
  have := digs_len_le (show R < 10000 ^ b.length by omega)
  omega
theorem consV {R : Nat} {x : Int} (hx : 0 ≤ x ∧ x ≤ 9999) : VI ([x] ++ digs R) = ((x.toNat + 10000 * R : Nat) : Int) := by
  rw [show [x] ++ digs R = x :: digs R from rfl, VI_cons, VI_digs]
  omega
theorem consR {R : Nat} {x : Int} (hx : 0 ≤ x ∧ x ≤ 9999) : InR ([x] ++ digs R) := InR.mk hx (digs_InR R)
theorem quo_small {R : Nat} {x : Int} (hx : 0 ≤ x ∧ x ≤ 9999) (hR : R < B) : (x.toNat + 10000 * R) / B ≤ 9999 := by
  have : (x.toNat + 10000 * R) / B < 10000 := by
    rw [Nat.div_lt_iff_lt_mul (by omega)]
    have : 10000 * (R + 1) ≤ 10000 * B := Nat.mul_le_mul_left 10000 hR
    omega
  omega
theorem rest_lt {X : Nat} (h : 0 < B) : X - B * (X / B) < B := by
  have := Nat.mod_lt X h
  have h2 := Nat.div_add_mod X B
  omega
theorem rest_eq (X : Nat) : X / B * B + (X - B * (X / B)) = X := by
  have h2 := Nat.div_add_mod X B
  have h3 : B * (X / B) = X / B * B := Nat.mul_comm _ _
  omega
theorem round_ev (hb : InR b) (lb : b.length ≤ 1000) (hB : VI b = (B : Int)) (hp : 0 < B) {out : List Int} {i R : Nat} {x : Int} (hi : i < out.length) (hx : 0 ≤ x ∧ x ≤ 9999) (hR : R < B) :
    Ev (fun k => F1018066 k (i : Int) x b out (digs R)) ((), ((), (), (b, ()), (out.set i (((x.toNat + 10000 * R) / B : Nat) : Int), ()), (digs (x.toNat + 10000 * R - B * ((x.toNat + 10000 * R) / B)), ()), ())) := by
  have hl := R_len hb lb hB hR
  have c1 : decide ([x].length + (digs R).length ≤ 17592186044416) = true := decide_eq_true (by simp; omega)
  refine Ev.step 1 (fun k => F1018066_eq k _ _ _ _ _) ?_
  simp only [c1, if_true]
  have ht := trim_ev (consR (R := R) hx) (by simp; omega)
  rw [consV hx] at ht
  refine Ev.bind ht ?_
  have := fitI (X := x.toNat + 10000 * R) hb lb hB (by have := round_len hl hx; omega) hi 9999 0 9999 (by omega) (by omega) (by omega) (by omega) (by
    have : 10000 * (R + 1) ≤ 10000 * B := Nat.mul_le_mul_left 10000 hR
    omega)
  exact this
/-- the rounds of the program's division -/
theorem divI (hb : InR b) (lb : b.length ≤ 1000) (hB : VI b = (B : Int)) (hp : 0 < B) {n : Nat} : ∀ (l : List Int) (Q R : Nat) (out : List Int), InR l → l.length ≤ n → out.length = n → InR out → (∀ j, j < l.length → out.getD j 0 = 0) → VI out = (Q : Int) * 10000 ^ l.length → R < B →
    ∃ (Q' R' : Nat) (out' : List Int), Ev (fun k => backK (.int .i64) [.box [.v (.sl (.int .i64))], .box [.o (.int .i64) 3 true], .box [.v (.sl (.int .i64))]] (fun i x d1 => (F1018066 k i x d1.1.1 d1.2.1.1 d1.2.2.1.1).bind fun o3 => some o3.2.2.2) l ((b, ()), (out, ()), (digs R, ()), ())) ((b, ()), (out', ()), (digs R', ()), ()) ∧
      InR out' ∧ out'.length = n ∧ VI out' = (Q' : Int) ∧ R' < B ∧ ((Q' * B + R' : Nat) : Int) = VI l.reverse + ((Q * B + R : Nat) : Int) * 10000 ^ l.length
  | [], Q, R, out, _, _, hlen, hr, _, hV, hR => ⟨Q, R, out, Ev.now _, hr, hlen, by simpa using hV, hR, by simp [VI]⟩
  | x :: l, Q, R, out, hl, hn, hlen, hr, hz, hV, hR => by
    obtain ⟨hx, hl⟩ := hl.cons
    simp only [List.length_cons] at hn hz hV
    obtain ⟨X, hX⟩ : ∃ X, X = x.toNat + 10000 * R := ⟨_, rfl⟩
    have hq := quo_small (B := B) hx hR
    have h1 := round_ev hb lb hB hp (out := out) (i := l.length) (by omega) hx hR
    rw [← hX] at h1 hq
    obtain ⟨Q', R', out', h2, h3, h4, h5, h6, h7⟩ := divI (n := n) hb lb hB hp l (10000 * Q + X / B) (X - B * (X / B)) (out.set l.length ((X / B : Nat) : Int)) hl (by omega) (by rw [List.length_set]; exact hlen) (inrSet hr (limbq hq)) (fun j hj => by
      rw [getI_set (i := l.length) (by omega), if_neg (by omega)]
      exact hz j (by omega)) (by
      rw [VI_set (by omega), hz l.length (by omega)]
      exact ar1 (by rw [hV, Int.pow_succ])) (rest_lt hp)
    refine ⟨Q', R', out', Ev.bind (Ev.bind h1 (Ev.now _)) h2, h3, h4, h5, h6, ?_⟩
    rw [h7, List.reverse_cons, VI_snoc, List.length_reverse, List.length_cons, Int.pow_succ]
    have e1 : (10000 * Q + X / B) * B + (X - B * (X / B)) = 10000 * (Q * B) + X := by
      have := rest_eq (B := B) X
      rw [Nat.add_mul, Nat.mul_assoc]
      omega
    rw [e1, hX]
    exact ar2 hx.1
theorem uniq_div {A Q R : Nat} (h : Q * B + R = A) (hR : R < B) : Q = A / B ∧ R = A % B := by
  have hp : 0 < B := by omega
  subst h
  constructor
  · rw [Nat.mul_comm, Nat.mul_add_div hp, Nat.div_eq_of_lt hR]; omega
  · rw [Nat.mul_comm, Nat.mul_add_mod, Nat.mod_eq_of_lt hR]
theorem div_ev (ha : InR a) (hb : InR b) (la : a.length ≤ 1000) (lb : b.length ≤ 1000) {A : Nat} (hA : VI a = (A : Int)) (hB : VI b = (B : Int)) (hp : 0 < B) :
    Ev (fun k => F66 k a b) ((digs (A / B), digs (A % B), ()), ((), (), ())) := by
  have c1 : (decide (0 ≤ (a.length : Int)) && decide ((a.length : Int) ≤ (a.length : Int)) && decide ((a.length : Int) ≤ (17592186044416 : Int))) = true := by simp; omega
  have c2 : Nat.ble a.length 1152921504606846976 = true := Nat.ble_eq_true_of_le (by omega)
  refine Ev.step 2 (fun k => F66_eq k _ _) ?_
  simp only [c1, c2, if_true, Int.toNat_natCast]
  obtain ⟨Q, R, out, h1, h2, h3, h4, h5, h6⟩ := divI hb lb hB hp (n := a.length) a.reverse 0 0 (List.replicate a.length 0) (fun d hd => ha d (by simpa using hd)) (by simp) (by simp) (fun d hd => by rw [(List.mem_replicate.1 hd).2]; omega) (fun j _ => by
    rw [List.getD_eq_getElem?_getD, List.getElem?_replicate]
    split <;> rfl) (by rw [VI_zeros]; simp) hp
  rw [digs_zero] at h1
  rw [List.reverse_reverse, hA] at h6
  obtain ⟨q1, q2⟩ := uniq_div (show Q * B + R = A by simp at h6; omega) h5
  refine Ev.bind h1 (Ev.step 1 (fun k => F66c15_eq k _ _) ?_)
  have ht := trim_ev h2 (by omega)
  rw [h4, Int.toNat_natCast] at ht
  subst q1 q2
  exact Ev.bind ht (Ev.now _)
/-- the reference's division -/
theorem l1DivAbs_ev (ha : InR a) (hb : InR b) (la : a.length ≤ 1000) (lb : b.length ≤ 1000) {A : Nat} (hA : VI a = (A : Int)) (hB : VI b = (B : Int)) (hp : 0 < B) :
    Ev (fun k => F91 k a b) ((digs (A / B), digs (A % B), ()), ((), (), ())) := by
  have c1 : (decide (0 ≤ (a.length : Int)) && decide ((a.length : Int) ≤ (a.length : Int)) && decide ((a.length : Int) ≤ (17592186044416 : Int))) = true := by simp; omega
  refine Ev.step 2 (fun k => F91_eq k _ _) ?_
  simp only [c1, if_true, Int.toNat_natCast]
  have key : ∀ (m Q R : Nat) (out : List Int), m ≤ a.length → out.length = a.length → InR out → (∀ j, j < m → out.getD j 0 = 0) → VI out = (Q : Int) * 10000 ^ m → R < B → ((Q * B + R : Nat) : Int) = VI (a.drop m) →
      Ev (fun k => F91c4 k a b out (digs R) ((m : Int) - 1)) ((digs (A / B), digs (A % B), ()), ((), (), ())) := by
    intro m
    induction m with
    | zero =>
      intro Q R out _ hlen hr _ hV hR hT
      rw [List.drop_zero, hA] at hT
      obtain ⟨q1, q2⟩ := uniq_div (show Q * B + R = A by omega) hR
      have c : decide (((0 : Nat) : Int) - 1 ≥ 0) = false := by decide
      refine Ev.step 1 (fun k => F91c4_eq k _ _ _ _ _) ?_
      simp only [c, Bool.false_eq_true, if_false]
      have ht := l1Trim_ev hr (by omega)
      have e9 : ((Q : Int) * 10000 ^ 0).toNat = Q := by rw [Int.pow_zero, Int.mul_one, Int.toNat_natCast]
      rw [hV, e9] at ht
      subst q1 q2
      exact Ev.bind ht (Ev.now _)
    | succ m ih =>
      intro Q R out hm hlen hr hz hV hR hT
      have e0 : (((m + 1 : Nat) : Int) - 1) = (m : Int) := by omega
      rw [e0]
      obtain ⟨x, hxd⟩ : ∃ x, x = a.getD m 0 := ⟨_, rfl⟩
      have hx := ha.at (show m < a.length by omega)
      rw [← hxd] at hx
      obtain ⟨X, hX⟩ : ∃ X, X = x.toNat + 10000 * R := ⟨_, rfl⟩
      have hl := R_len hb lb hB hR
      have hq := quo_small (B := B) hx hR
      rw [← hX] at hq
      have lX : (digs X).length ≤ 2000 := by have := round_len hl hx; rw [← hX] at this; omega
      have c2 : decide ([x].length + (digs R).length ≤ 17592186044416) = true := decide_eq_true (by simp; omega)
      have c3 : decide ((m : Int) ≥ 0) = true := decide_eq_true (by omega)
      have ht := l1Trim_ev (consR (R := R) hx) (by simp; omega)
      rw [consV hx, ← hX, Int.toNat_natCast] at ht
      have hf : Ev (fun k => F108 k (digs X) b) ((((X / B : Nat) : Int), ()), ((), (), ())) := Ev.step 2 (fun k => F108_eq k _ _) (by
        have := fitS (X := X) hb lb hB 9999 0 10000 (by omega) (by omega) (by omega) (by omega) (by
          have : 10000 * (R + 1) ≤ 10000 * B := Nat.mul_le_mul_left 10000 hR
          omega)
        exact this)
      have hn := l1Trim_ev (InR.one (d := ((X / B : Nat) : Int)) (limbq hq)) (by simp)
      rw [VI_one, Int.toNat_natCast] at hn
      have hmn := l1MulN hb lb hB (digs_InR (X / B)) (digs_len_le (m := 1) (by omega)) (VI_digs (X / B))
      have hsb := l1SubN (B := B) (n := X / B) lX (Nat.mul_div_le X B)
      refine Ev.step 1 (fun k => F91c4_eq k _ _ _ _ _) ?_
      simp only [c3, ge0, if_true, Int.toNat_natCast, getI_of (show m < a.length by omega), Option.bind_some, ← hxd, c2]
      refine Ev.bind ht (Ev.bind hf ?_)
      simp only [lt_true (show m < out.length by omega), Bool.and_self, if_true, getI_of (show m < out.length by omega), Option.bind_some]
      refine Ev.bind hn (Ev.bind hmn (Ev.bind hsb ?_))
      have e1 : IntKind.i64.wrap ((m : Int) - 1) = (m : Int) - 1 := wrap64 (by omega) (by omega)
      rw [e1]
      refine ih (10000 * Q + X / B) (X - B * (X / B)) (out.set m ((X / B : Nat) : Int)) (by omega) (by rw [List.length_set]; exact hlen) (inrSet hr (limbq hq)) (fun j hj => by
        rw [getI_set (by omega), if_neg (by omega)]
        exact hz j (by omega)) (by
        rw [VI_set (by omega), hz m (by omega)]
        exact ar1 (by rw [hV, Int.pow_succ])) (rest_lt hp) ?_
      rw [VI_drop (by omega), ← hT, ← hxd]
      have e2 : (10000 * Q + X / B) * B + (X - B * (X / B)) = 10000 * (Q * B) + X := by
        have := rest_eq (B := B) X
        rw [Nat.add_mul, Nat.mul_assoc]
        omega
      rw [e2, hX]
      exact ar3 hx.1
  have e0 : IntKind.i64.wrap ((a.length : Int) - 1) = (a.length : Int) - 1 := wrap64 (by omega) (by omega)
  rw [e0]
  have := key a.length 0 0 (List.replicate a.length 0) (by omega) (by simp) (fun d hd => by rw [(List.mem_replicate.1 hd).2]; omega) (fun j _ => by
    rw [List.getD_eq_getElem?_getD, List.getElem?_replicate]
    split <;> rfl) (by rw [VI_zeros]; simp) hp (by rw [List.drop_length]; simp [VI])
  rw [digs_zero] at this
  exact this
end
end Go.Proofs.YtennmjbdmglebaaGreatDoor.R
end

section
/-! Rf: quotients that are rounded; the least scale. -/
set_option autoImplicit false
set_option linter.unusedSimpArgs false
set_option linter.unusedVariables false
namespace Go.Proofs.YtennmjbdmglebaaGreatDoor.R
open Go.Rf
theorem len_gt (n : Nat) : decide (((digs n).length : Int) > 0) = decide (n ≠ 0) := by
  by_cases h : n = 0
  · subst h
    rw [digs_zero]; rfl
  · rw [digs_pos h]
    rw [decide_eq_true h, decide_eq_true (by simp)]
theorem len_is0 (n : Nat) : (((digs n).length : Int) == 0) = decide (n = 0) := by
  by_cases h : n = 0
  · subst h
    rw [digs_zero]; rfl
  · rw [digs_pos h, decide_eq_false h, beq_eq_false_iff_ne]
    simp; omega
theorem addN_ev {q : Nat} {c : List Int} {n : Nat} (hc : InR c) (lc : c.length ≤ 1000) (hn : VI c = (n : Int)) (lq : (digs q).length ≤ 1000) : Ev (fun k => F67 k (digs q) c) ((digs (q + n), ()), ((), (), ())) := by
  have := add_ev (digs_InR q) hc (by omega) (by omega)
  rw [VI_digs, hn, show ((q : Int) + (n : Int)).toNat = q + n by omega] at this
  exact this
theorem l1AddN_ev {q : Nat} {c : List Int} {n : Nat} (hc : InR c) (lc : c.length ≤ 1000) (hn : VI c = (n : Int)) (lq : (digs q).length ≤ 1000) : Ev (fun k => F94 k (digs q) c) ((digs (q + n), ()), ((), (), ())) := by
  have := l1AddAbs_ev (digs_InR q) hc (by omega) (by omega)
  rw [VI_digs, hn, show ((q : Int) + (n : Int)).toNat = q + n by omega] at this
  exact this
/-- whether what is left is rounded away from nought -/
def rmore (mode : Int) (neg odd : Bool) (half : Int) : Bool := if mode = 1 then true else if mode = 2 then false else if mode = 3 then !neg else if mode = 4 then neg else if mode = 5 then decide (half ≥ 0) else if mode = 6 then decide (half > 0) else (decide (half > 0) || (half == 0 && odd))
/-- a quotient that is rounded -/
def rquo (neg : Bool) (V D : Nat) (mode : Int) : Nat := if V % D = 0 then V / D else if rmore mode neg (decide (V / D % 2 = 1)) (cmpI (V % D + V % D) D) = true then V / D + 1 else V / D
theorem away_both (neg odd : Bool) (half mode : Int) (h0 : 1 ≤ mode) (h1 : mode ≤ 7) : ∃ v : Bool, v = rmore mode neg odd half ∧ Ev (fun k => F69 k neg odd half mode) ((v, ()), ((), (), (), (), ())) ∧ Ev (fun k => F92 k mode neg odd half) ((v, ()), ((), (), (), (), ())) := by
  have a : ∀ {r}, Ev (fun _ => if (mode == (1 : Int)) = true then some ((true, ()), ((), (), (), (), ())) else if (mode == (3 : Int)) = true then some (((!neg), ()), ((), (), (), (), ())) else if (mode == (4 : Int)) = true then some ((neg, ()), ((), (), (), (), ())) else if (mode == (5 : Int)) = true then some ((decide (half ≥ (0 : Int)), ()), ((), (), (), (), ())) else if (mode == (6 : Int)) = true then some ((decide (half > (0 : Int)), ()), ((), (), (), (), ())) else if (mode == (7 : Int)) = true then if (decide (half > (0 : Int))) = true then some ((true, ()), ((), (), (), (), ())) else if (half == (0 : Int)) = true then some ((odd, ()), ((), (), (), (), ())) else some ((false, ()), ((), (), (), (), ())) else some ((false, ()), ((), (), (), (), ()))) r → Ev (fun k => F69 k neg odd half mode) r := fun h => Ev.step 2 (fun k => F69_eq k _ _ _ _) h
  have b : ∀ {r}, Ev (fun _ => if (mode == (1 : Int)) = true then some ((true, ()), ((), (), (), (), ())) else if (mode == (2 : Int)) = true then some ((false, ()), ((), (), (), (), ())) else if (mode == (3 : Int)) = true then some (((!neg), ()), ((), (), (), (), ())) else if (mode == (4 : Int)) = true then some ((neg, ()), ((), (), (), (), ())) else if (mode == (5 : Int)) = true then some ((decide (half ≥ (0 : Int)), ()), ((), (), (), (), ())) else if (mode == (6 : Int)) = true then some ((decide (half > (0 : Int)), ()), ((), (), (), (), ())) else if (decide (half > (0 : Int))) = true then some ((true, ()), ((), (), (), (), ())) else if (half == (0 : Int)) = true then some ((odd, ()), ((), (), (), (), ())) else some ((false, ()), ((), (), (), (), ()))) r → Ev (fun k => F92 k mode neg odd half) r := fun h => Ev.step 2 (fun k => F92_eq k _ _ _ _) h
  have hm : mode = 1 ∨ mode = 2 ∨ mode = 3 ∨ mode = 4 ∨ mode = 5 ∨ mode = 6 ∨ mode = 7 := by omega
  rcases hm with rfl | rfl | rfl | rfl | rfl | rfl | rfl
  · exact ⟨true, by simp [rmore], a (by simp only [show ((1 : Int) == 1) = true from rfl, if_true]; exact Ev.now _), b (by simp only [show ((1 : Int) == 1) = true from rfl, if_true]; exact Ev.now _)⟩
  · exact ⟨false, by simp [rmore], a (by simp [show ((2 : Int) == 1) = false from rfl]; exact Ev.now _), b (by simp [show ((2 : Int) == 1) = false from rfl]; exact Ev.now _)⟩
  · exact ⟨!neg, by simp [rmore], a (by simp; exact Ev.now _), b (by simp; exact Ev.now _)⟩
  · exact ⟨neg, by simp [rmore], a (by simp; exact Ev.now _), b (by simp; exact Ev.now _)⟩
  · exact ⟨decide (half ≥ 0), by simp [rmore], a (by simp; exact Ev.now _), b (by simp; exact Ev.now _)⟩
  · exact ⟨decide (half > 0), by simp [rmore], a (by simp; exact Ev.now _), b (by simp; exact Ev.now _)⟩
  · cases h : decide (half > 0) with
    | true => exact ⟨true, by simp [rmore, h], a (by simp [h]; exact Ev.now _), b (by simp [h]; exact Ev.now _)⟩
    | false =>
      cases h2 : (half == 0) with
      | true => exact ⟨odd, by simp [rmore, h, h2], a (by simp [h, h2]; exact Ev.now _), b (by simp [h, h2]; exact Ev.now _)⟩
      | false => exact ⟨false, by simp [rmore, h, h2], a (by simp [h, h2]; exact Ev.now _), b (by simp [h, h2]; exact Ev.now _)⟩
theorem quotient_both (neg : Bool) {V D : Nat} (mode : Int) (h0 : 1 ≤ mode) (h1 : mode ≤ 7) (hp : 0 < D) (lV : (digs V).length ≤ 900) (lD : (digs D).length ≤ 900) : ∃ q : Nat, q = rquo neg V D mode ∧ q ≤ V / D + 1 ∧
    Ev (fun k => F37 k neg (digs V) (digs D) mode) (((neg, digs q, ()), ()), (((), (), ()), (), (), ())) ∧ Ev (fun k => F74 k neg (digs V) (digs D) mode) ((digs q, ()), ((), (), (), (), ())) := by
  have hd := div_ev (digs_InR V) (digs_InR D) (by omega) (by omega) (VI_digs V) (VI_digs D) hp
  have hs := l1DivAbs_ev (digs_InR V) (digs_InR D) (by omega) (by omega) (VI_digs V) (VI_digs D) hp
  have last : ∀ (x3 : List Int) (x7 : List Int), Ev (fun k => F37c7 k neg x3 false ([] : List Int) x7) (((neg, x7, ()), ()), (((), (), ()), (), (), ())) := fun x3 x7 => Ev.step 1 (fun k => F37c7_eq k _ _ _ _ _) (Ev.now _)
  by_cases hr : V % D = 0
  · refine ⟨V / D, by simp [rquo, hr], by omega, Ev.step 2 (fun k => F37_eq k _ _ _ _) (Ev.bind hd ?_), Ev.step 2 (fun k => F74_eq k _ _ _ _) (Ev.bind hs ?_)⟩
    · simp only [len_gt, hr, ne_eq, not_true_eq_false, decide_false, Bool.false_eq_true, if_false]
      exact last _ _
    · simp only [len_is0, hr, decide_true, if_true]
      exact Ev.now _
  · have lQ : (digs (V / D)).length ≤ 900 := by
      by_cases hV : V = 0
      · subst hV; simp [digs_zero]
      · have h1 := VI_lt (digs_InR V)
        rw [VI_digs] at h1
        have h2 : V < 10000 ^ (digs V).length := by
          have : ((V : Nat) : Int) < ((10000 ^ (digs V).length : Nat) : Int) := by rw [Int.natCast_pow]; exact h1
          omega
        have := digs_len_le (Nat.lt_of_le_of_lt (Nat.div_le_self V D) h2)
        omega
    have lR : (digs (V % D)).length ≤ 901 := by
      have h1 := VI_lt (digs_InR D)
      rw [VI_digs] at h1
      have h2 : D < 10000 ^ (digs D).length := by
        have : ((D : Nat) : Int) < ((10000 ^ (digs D).length : Nat) : Int) := by rw [Int.natCast_pow]; exact h1
        omega
      have := digs_len_le (Nat.lt_trans (Nat.mod_lt V hp) h2)
      omega
    have l2R : (digs (V % D + V % D)).length ≤ 902 := by
      have h1 := VI_lt (digs_InR (V % D))
      rw [VI_digs] at h1
      have h2 : V % D < 10000 ^ (digs (V % D)).length := by
        have : ((V % D : Nat) : Int) < ((10000 ^ (digs (V % D)).length : Nat) : Int) := by rw [Int.natCast_pow]; exact h1
        omega
      have h3 : V % D + V % D < 10000 ^ ((digs (V % D)).length + 1) := by rw [Nat.pow_succ]; omega
      have := digs_len_le h3
      omega
    have a1 := addN_ev (q := V % D) (digs_InR (V % D)) (by omega) (VI_digs _) (by omega)
    have s1 := l1AddN_ev (q := V % D) (digs_InR (V % D)) (by omega) (VI_digs _) (by omega)
    have a2 : Ev (fun k => F68 k (digs (V % D + V % D)) (digs D)) ((cmpI (V % D + V % D) D, ()), ((), (), ())) := cmp_ev (digs_InR _) (digs_InR _) (digs_Trim _) (digs_Trim _) (VI_digs _) (VI_digs _) (by omega) (by omega)
    have s2 : Ev (fun k => F93 k (digs (V % D + V % D)) (digs D)) ((cmpI (V % D + V % D) D, ()), ((), (), ())) := l1CmpAbs_ev (digs_InR _) (digs_InR _) (digs_Trim _) (digs_Trim _) (VI_digs _) (VI_digs _) (by omega)
    have a3 := addN_ev (q := V / D) (c := [1]) (n := 1) (InR.one (by omega)) (by simp) (VI_one 1) (by omega)
    have s3 := l1AddN_ev (q := V / D) (c := [1]) (n := 1) (InR.one (by omega)) (by simp) (VI_one 1) (by omega)
    have c0 : decide (V % D ≠ 0) = true := decide_eq_true hr
    have c1 : decide (V % D = 0) = false := decide_eq_false hr
    by_cases hq : V / D = 0
    · obtain ⟨v, ev, w1, w2⟩ := away_both neg false (cmpI (V % D + V % D) D) mode h0 h1
      have c2 : decide (V / D ≠ 0) = false := decide_eq_false (by omega)
      refine ⟨if v then V / D + 1 else V / D, by simp [rquo, hr, hq, ev], by split <;> omega, Ev.step 2 (fun k => F37_eq k _ _ _ _) (Ev.bind hd ?_), Ev.step 2 (fun k => F74_eq k _ _ _ _) (Ev.bind hs ?_)⟩
      · simp only [len_gt, c0, if_true]
        refine Ev.bind a1 (Ev.bind a2 ?_)
        simp only [len_gt, c2, Bool.false_eq_true, if_false]
        refine Ev.bind w1 ?_
        cases v with
        | true => simp only [if_true]; exact Ev.bind a3 (last _ _)
        | false => simp only [Bool.false_eq_true, if_false]; exact last _ _
      · simp only [len_is0, len_gt, c1, c2, Bool.false_eq_true, if_false]
        refine Ev.bind s1 (Ev.bind s2 (Ev.bind w2 ?_))
        cases v with
        | true => simp only [if_true]; exact Ev.bind s3 (Ev.now _)
        | false => simp only [Bool.false_eq_true, if_false]; exact Ev.now _
    · have c2 : decide (V / D ≠ 0) = true := decide_eq_true hq
      obtain ⟨y, hy⟩ : ∃ y, (digs (V / D))[0]? = some y := by rw [digs_pos hq]; exact ⟨_, rfl⟩
      obtain ⟨v, ev, w1, w2⟩ := away_both neg ((y.tmod 2) == 1) (cmpI (V % D + V % D) D) mode h0 h1
      have hodd : ((y.tmod 2) == 1) = decide (V / D % 2 = 1) := by
        rw [digs_pos hq] at hy
        obtain rfl := Option.some.inj hy
        rw [Int.tmod_eq_emod_of_nonneg (by omega)]
        by_cases ho : V / D % 2 = 1
        · rw [decide_eq_true ho, beq_iff_eq]; omega
        · rw [decide_eq_false ho, beq_eq_false_iff_ne]; omega
      refine ⟨if v then V / D + 1 else V / D, by rw [ev, hodd, rquo, if_neg hr], by split <;> omega, Ev.step 2 (fun k => F37_eq k _ _ _ _) (Ev.bind hd ?_), Ev.step 2 (fun k => F74_eq k _ _ _ _) (Ev.bind hs ?_)⟩
      · simp only [len_gt, c0, if_true]
        refine Ev.bind a1 (Ev.bind a2 ?_)
        simp only [len_gt, c2, if_true, hy, Option.bind_some]
        refine Ev.bind w1 ?_
        cases v with
        | true => simp only [if_true]; exact Ev.bind a3 (last _ _)
        | false => simp only [Bool.false_eq_true, if_false]; exact last _ _
      · simp only [len_is0, len_gt, c1, c2, Bool.false_eq_true, if_false, if_true, hy, Option.bind_some]
        refine Ev.bind s1 (Ev.bind s2 (Ev.bind w2 ?_))
        cases v with
        | true => simp only [if_true]; exact Ev.bind s3 (Ev.now _)
        | false => simp only [Bool.false_eq_true, if_false]; exact Ev.now _
/-! ### the least scale -/
def trimN : Nat → Nat → Nat × Nat
  | V, 0 => (V, 0)
  | V, s + 1 => if V % 10 = 0 then trimN (V / 10) s else (V, s + 1)
theorem big_ev {neg : Bool} {n : Nat} (h16 : (digs n).length ≤ 16) : Ev (fun k => F49 k neg (digs n)) (((neg && decide (n ≠ 0), digs n, ()), true, ()), ((), (), ())) := by
  obtain ⟨hr, ht, hv⟩ := digs_spec n
  have htr := trim_ev hr (show (digs n).length ≤ 1000000 by omega)
  have e : digs (VI (digs n)).toNat = digs n := by rw [hv]; rfl
  rw [e] at htr
  have c16 : decide (((digs n).length : Int) > 16) = false := decide_eq_false (by omega)
  refine Ev.step 2 (fun k => F49_eq k _ _) (Ev.bind htr ?_)
  simp only [c16, Bool.false_eq_true, if_false, len_gt]
  cases neg with
  | true =>
    simp only [if_true, Bool.true_and]
    exact Ev.bind (clone_int_ev _ (by omega)) (Ev.now _)
  | false =>
    simp only [Bool.false_eq_true, if_false, Bool.false_and]
    exact Ev.bind (clone_int_ev _ (by omega)) (Ev.now _)
theorem div10_len {V : Nat} {m : Nat} (h : (digs V).length ≤ m) : (digs (V / 10)).length ≤ m := by
  have h1 := VI_lt (digs_InR V)
  rw [VI_digs] at h1
  have h2 : V < 10000 ^ (digs V).length := by
    have : ((V : Nat) : Int) < ((10000 ^ (digs V).length : Nat) : Int) := by rw [Int.natCast_pow]; exact h1
    omega
  have := digs_len_le (Nat.lt_of_le_of_lt (Nat.div_le_self V 10) h2)
  omega
/-- a decimal at its least scale -/
def dTrim (n : Bool) (l : List Int) (s : Int) : Bool × List Int × Int × Unit := if decOk n l s = true then (n, digs (trimN (num l) s.toNat).1, ((trimN (num l) s.toNat).2 : Int), ()) else (false, [], 0, ())
end Go.Proofs.YtennmjbdmglebaaGreatDoor.R
end
