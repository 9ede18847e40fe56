/- A part of the proof that the law FnKeyRows answers true for every input: contracts of functions that it reaches, or its plain law. -/
import Derived.RangeFuncNested
import Derived.RangeFuncBound
import Derived.RangeFuncCalls
import Derived.RangeFuncLeaves
import Derived.Shelf.Abstract
import Derived.Shelf.RegionOpen
import Derived.WalkKit
import Derived.OwnWalkIn
import Derived.TacticsInMore
import Derived.LoopNIn
import Derived.LoopIn
import Derived.Shelf.Strings.BuilderF
import Derived.Lib.FrozenHead2
import Derived.Lib.OthersKept
import Derived.Lib.ItoaNum
import Derived.Lib.Repeat
import Derived.Lib.Bytealg
import Derived.Lib.TrimByte
import Derived.Test.YtiojgdjpigcgaaaGreatDoorProg
import Derived.KernelRfl
import Derived.Shelf.Strings.Builder1
import Derived.Shelf.Strings.Builder2
import Derived.Shelf.Strings.Trim
import Derived.Shelf.Small.Utf8
import Derived.Shelf.Small.Strs
import Derived.Shelf.Small.Wraps
import Derived.Shelf.Strings.BuilderK
import Derived.Shelf.Strings.Builder2Cap
import Derived.Shelf.Strconv.Atoi
import Derived.Shelf.Strconv.Itoa0
import Derived.Shelf.Strconv.Itoa1
import Derived.Shelf.LaysM
import Derived.Shelf.Strconv.Itoa2
import Derived.Shelf.Strconv.Itoa3
import Derived.Shelf.Strconv.AtoiErrFast
import Derived.Shelf.Strconv.ParseIntEmpty
import Derived.Shelf.Strconv.AtoiFail
import Derived.Shelf.Strconv.Clone
import Derived.Shelf.Strconv.SyntaxError
import Derived.Shelf.LaysC
import Derived.Shelf.Strconv.ToError
import Derived.Shelf.Strconv.AtoiErr
import Derived.Shelf.Strconv.Lower
import Derived.Shelf.Strconv.ParseUint10
import Derived.Shelf.Strconv.ParseUint10Empty
import Derived.Shelf.Strconv.ParseUint10Any
import Derived.Shelf.Strconv.ParseInt10
import Derived.Shelf.Strconv.AtoiLong
import Derived.Shelf.Strconv.AtoiInnerAll
import Derived.Shelf.Strconv.RangeError
import Derived.Shelf.Strconv.ToErrorRange
import Derived.Shelf.Strconv.AtoiAll
import Derived.Shelf.Strconv.ParseUintEmpty
import Derived.Shelf.Strconv.ParseUint10b64
import Derived.Shelf.Strconv.ParseUint10b32
import Derived.Shelf.Strconv.ParseUint10b16
import Derived.Shelf.Strconv.ParseUint10b8
import Derived.Shelf.Strconv.ParseUint10At
import Derived.Shelf.Strconv.ParseInt10At64
import Derived.Shelf.Strconv.ParseInt10At32
import Derived.Shelf.Strconv.ParseInt10At16
import Derived.Shelf.Strconv.ParseInt10At8
import Derived.Shelf.Strings.Search1
import Derived.Shelf.Strings.Search2
import Derived.Shelf.Strings.Cut
import Derived.Shelf.Strings.Shaped
import Derived.Shelf.Strings.Prefix
import Derived.Shelf.Unicode.Decode
import Derived.Shelf.Strings.Runes
import Derived.Shelf.Strings.AsciiSet
import Derived.Shelf.Bits.Mul64
import Derived.Shelf.Strings.Repeat
import Derived.Shelf.Unicode.DecodeSlow
import Derived.Shelf.Unicode.DecodeAny
import Derived.Shelf.Unicode.DecodeLast
import Derived.Shelf.Strings.BuilderCap
import Derived.Ground.Names2Prog
import Derived.Shelf.Slices.Clone
import Derived.Shelf.Slices.SearchI
import Derived.Ground.SlgnProg
import Derived.Shelf.SlicesE.Clone
import Derived.Lib.LaidTab
import Derived.Lib.AppendIntMem
import Derived.Test.YtiojgdjpigcgaaaGreatDoorCFnKeyRowsx0
import Derived.Test.YtiojgdjpigcgaaaGreatDoorCFnKeyRowsx2
import Derived.Test.YtiojgdjpigcgaaaGreatDoorCFnKeyRowsx3
namespace Go.Proofs.YtiojgdjpigcgaaaGreatDoor.Q
end Go.Proofs.YtiojgdjpigcgaaaGreatDoor.Q
namespace Go.Proofs.YtiojgdjpigcgaaaGreatDoorW.PrintLast
end Go.Proofs.YtiojgdjpigcgaaaGreatDoorW.PrintLast
namespace Go.Proofs.YtiojgdjpigcgaaaGreatDoorW.PrintMore
end Go.Proofs.YtiojgdjpigcgaaaGreatDoorW.PrintMore
namespace Go.Proofs.YtiojgdjpigcgaaaGreatDoorW.PrintWords
end Go.Proofs.YtiojgdjpigcgaaaGreatDoorW.PrintWords
section
namespace Go.Proofs.YtiojgdjpigcgaaaGreatDoor.Q
open Go.Shelf
open Go.RowKit Go.Proofs.YtiojgdjpigcgaaaGreatDoor.Q Go.Proofs.YtiojgdjpigcgaaaGreatDoorW.PrintWords Go.Proofs.YtiojgdjpigcgaaaGreatDoorW.PrintLast Go.Proofs.YtiojgdjpigcgaaaGreatDoorW.PrintMore
set_option linter.unusedVariables false
set_option linter.unusedSimpArgs false
/-- A block holds these cells. -/
def CellsAt (W : World) (B : Nat) (t : TypeId) (cs : Array Value) : Prop := W.heap[B]? = some (.cells cs t (0, 0))
theorem CellsAt.lt {W : World} {B : Nat} {t : TypeId} {cs : Array Value} (h : CellsAt W B t cs) : B < W.heap.size := (Array.getElem?_eq_some_iff.1 h).1
theorem CellsAt.new (W : World) (t : TypeId) (cs : Array Value) : CellsAt (W.alloc (.cells cs t)) W.heap.size t cs := World.alloc_heap_new W _
theorem CellsAt.kept {W W' : World} {row : Option Nat} {B : Nat} {t : TypeId} {cs : Array Value} (h : CellsAt W B t cs) (hg : W.grownBy W' row) (hne : some B ≠ row) : CellsAt W' B t cs := (hg.block B h.lt hne).trans h
theorem CellsAt.below {W W' : World} {B n : Nat} {t : TypeId} {cs : Array Value} (h : CellsAt W B t cs) (hb : Below n W W') (hn : B < n) : CellsAt W' B t cs := (hb.block B hn).trans h
theorem CellsAt.alloc {W : World} {B : Nat} {t : TypeId} {cs : Array Value} (h : CellsAt W B t cs) (o : Obj) : CellsAt (W.alloc o) B t cs := (Below.heap_alloc W o B h.lt).trans h
theorem CellsAt.cell {W : World} {B : Nat} {t : TypeId} {cs : Array Value} (h : CellsAt W B t cs) (j : Nat) : W.cell? ⟨B, j, none⟩ = cs[j]? := by
  simp [World.cell?, show W.heap[B]? = _ from h]
theorem cellsAt_own {β : Type} (B : Nat) (t : TypeId) (f : β → Array Value) : Own (fun s W => CellsAt W B t (f s)) := fun s X Y row hs hg hrow =>
  hs.kept hg (fun e' => by obtain ⟨o, ho, hc⟩ := hrow B e'.symm; rw [show X.heap[B]? = _ from hs] at ho; cases ho; cases hc)
/-- What has come when k rounds are over. -/
def upto {α : Type} (f : Nat → α) (k : Nat) : List α := (List.range k).map f
theorem upto_succ {α : Type} (f : Nat → α) (k : Nat) : upto f (k + 1) = upto f k ++ [f k] := by simp [upto, List.range_succ]
theorem upto_length {α : Type} (f : Nat → α) (k : Nat) : (upto f k).length = k := by simp [upto]
/-- What a round that goes on keeps: what lay below, and the box of the slice. -/
def KpB (n₀ Bs : Nat) (W W' : World) : Prop := Below n₀ W W' ∧ W'.heap[Bs]? = W.heap[Bs]?
theorem KpB.refl (n₀ Bs : Nat) (W : World) : KpB n₀ Bs W W := ⟨Below.refl _ _, rfl⟩
theorem KpB.trans {n₀ Bs : Nat} {A B C : World} (h : KpB n₀ Bs A B) (k : KpB n₀ Bs B C) : KpB n₀ Bs A C := ⟨h.1.trans k.1, k.2.trans h.2⟩
theorem kpB_b {n₀ Bs : Nat} {w : World} (h0 : n₀ ≤ w.heap.size) (hB : Bs < w.heap.size) : ∀ (W : World) (l : Nat) (o o' : Obj), w.heap.size ≤ l → W.heap[l]? = some o → o.isCells = false → o.isWalk = false → KpB n₀ Bs W (W.putObj l o') :=
  fun W l o o' hl h1 h2 h3 => ⟨belowK_b h0 W l o o' hl h1 h2 h3, World.putObj_heap_other (by omega)⟩
end Go.Proofs.YtiojgdjpigcgaaaGreatDoor.Q
end

section
namespace Go.Proofs.YtiojgdjpigcgaaaGreatDoor.Q
open Go.RowKit Go.Proofs.YtiojgdjpigcgaaaGreatDoor.Q Go.Proofs.YtiojgdjpigcgaaaGreatDoorW.PrintWords Go.Proofs.YtiojgdjpigcgaaaGreatDoorW.PrintLast Go.Proofs.YtiojgdjpigcgaaaGreatDoorW.PrintMore
set_option linter.unusedVariables false
set_option linter.unusedSimpArgs false
set_option maxHeartbeats 2000000 in
set_option maxRecDepth 100000 in
theorem bld_copyCheck (B b : Nat) (bs : List Value) (w : World) (h : Lib.IsBuilderF 150 5 B b bs w) :
    Calls Tryz.prog 176 #[.pointer (some ⟨b, 0, none⟩)] w fun e w' => e = .returned (.tuple #[]) ∧ (Lib.BuilderAtF 150 5 B b (.pointer (some ⟨b, 0, none⟩)) bs w' ∧ Below B w w' ∧ Lib.OthersKept 5 (some b) w w') := by
  have hsz : (Tryz.prog.info? 150).map (·.size) = some 2 := by kernel_rfl
  obtain ⟨j, hj, hjs⟩ := Option.map_eq_some_iff.1 hsz
  rcases h with h | h
  · have h' := h
    obtain ⟨hB, v, hbk, hown, hne⟩ := h'
    have c0 : w.cell? ⟨b, 0, none⟩ = some (.pointer none) := by rw [Lib.cell_of_heap hbk]; rfl
    have c1 : w.cell? ⟨b, 1, none⟩ = some v := by rw [Lib.cell_of_heap hbk]; rfl
    have f0 : w.frozen? ⟨b, 0, none⟩ = false := Lib.frozen_of_heap hbk 0
    go_enter Tryz.func176, Tryz.ntmps176
    go_wp2
    rw [Lib.run_to_unsafe w ⟨b, 0, none⟩ Tryz.underlying148 Tryz.underlying215 hj (by rw [hjs]; decide) h.shape (Nat.zero_lt_succ 1)]
    simp only [Result.andThen]
    rw [Oper.upon_value]
    go_wp2
    rw [run_callFunc_extern Tryz.func213 (by kernel_rfl) (by kernel_rfl) (by kernel_rfl) (e := Extern.AbiNoEscape.same) (by kernel_rfl)]
    rw [Lib.run_noEscape]
    simp only [Result.andThen]
    rw [Oper.upon_value]
    go_wp2
    rw [Lib.run_from_unsafe w ⟨b, 0, none⟩ Tryz.underlying215 Tryz.underlying148 hj h.shape (by kernel_rfl)]
    simp only [Result.andThen]
    rw [Oper.upon_value]
    go_wp2
    go_end0
    exact ⟨rfl, h.used _, (Below.refl B w).setCell (p := ⟨b, 0, none⟩) h.1 _, (Lib.OthersKept.refl _ _ w).setCell ⟨b, 0, none⟩ rfl _⟩
  · obtain ⟨hB, v, hbk, hown, hne⟩ := id h
    have c0 : w.cell? ⟨b, 0, none⟩ = some (.pointer (some ⟨b, 0, none⟩)) := by rw [Lib.cell_of_heap hbk]; rfl
    go_enter Tryz.func176, Tryz.ntmps176
    go_wp2
    rw [Lib.run_neq_ptr_same w _ Tryz.underlying148 hj]
    go_wp2
    go_end0
    exact ⟨rfl, h, Below.refl B _, Lib.OthersKept.refl _ _ _⟩
theorem infoByte : (Tryz.prog.info? 5).map (fun i => (i.zero, i.size, i.bytes)) = some (some (.int .u8 0), 1, 1) := by kernel_rfl
set_option maxHeartbeats 2000000 in
set_option maxRecDepth 100000 in
theorem bld_WriteString (B b : Nat) (bs : List Value) (s : ByteArray) (w : World) (h : Lib.IsBuilderF 150 5 B b bs w) (hlen : bs.length + s.size ≤ 140737488355328) (hBw : B ≤ w.heap.size) :
    Calls Tryz.prog 136 #[.pointer (some ⟨b, 0, none⟩), .string s] w fun e w' => e = .returned (.tuple #[.int .i64 s.size, .nilIface]) ∧ (Lib.BuilderAtF 150 5 B b (.pointer (some ⟨b, 0, none⟩)) (bs ++ Lib.strCells s) w' ∧ Below B w w' ∧ Lib.OthersKept 5 (some b) w w') := by
  obtain ⟨i0, hi, hz0, hz1, hz2⟩ := info_parts infoByte
  go_enter Tryz.func136, Tryz.ntmps136
  go_wp2_with (go_at_call 176; refine (bld_copyCheck B b bs _ h).mono ?_)
  rintro e w1 ⟨rfl, h1, hb1, hk1⟩
  obtain ⟨hB, v, hbk, hown, hne⟩ := h1
  have c0 : w1.cell? ⟨b, 0, none⟩ = some (.pointer (some ⟨b, 0, none⟩)) := by rw [Lib.cell_of_heap hbk]; rfl
  have c1 : w1.cell? ⟨b, 1, none⟩ = some v := by rw [Lib.cell_of_heap hbk]; rfl
  go_wp2_with (at_builtin; refine Lib.wpList_append_own_stringF _ rfl _ _ 22 9 rfl B 5 i0 Tryz.underlying22 Tryz.underlying9 hi hz0 hz1 hz2 _ _ _ rfl hown s rfl ?c3 ?c4 ?c5 ?_)
  case c3 => unfold maxLen; omega
  case c4 => omega
  case c5 => have := hb1.size; omega
  intro v' w2 hown' hgrow _
  have hlt : b < w1.heap.size := (Array.getElem?_eq_some_iff.1 hbk).1
  have hb2 : w2.heap[b]? = some (.cells #[.pointer (some ⟨b, 0, none⟩), v] 150 (0, 0)) := by
    rw [hgrow.block b hlt (fun e => hne e.symm)]
    exact hbk
  have d0 : w2.cell? ⟨b, 0, none⟩ = some (.pointer (some ⟨b, 0, none⟩)) := by rw [Lib.cell_of_heap hb2]; rfl
  have d1 : w2.cell? ⟨b, 1, none⟩ = some v := by rw [Lib.cell_of_heap hb2]; rfl
  have f1 : w2.frozen? ⟨b, 1, none⟩ = false := Lib.frozen_of_heap hb2 1
  obtain ⟨ao, n', cap, rfl⟩ : ∃ ao n' cap, v' = .slice ao n' cap := by
    rcases hown'.2 with ⟨hv, _⟩ | ⟨g, cap, cur, fz, hv, _⟩
    · exact ⟨_, _, _, hv⟩
    · exact ⟨_, _, _, hv⟩
  go_wp2
  go_ret2
  refine ⟨rfl, ?_, ?_, (hk1.grown hgrow (Lib.ownsRowF_kind hown)).setCell ⟨b, 1, none⟩ rfl _⟩
  · exact Lib.BuilderAtF.put (T := 150) (e := 5) hB hb2 (bs' := bs ++ Lib.strCells s) (by simpa [Lib.strCells_length] using hown') (by decide)
  · exact (hb1.grown hgrow (by have := hb1.size; omega) (fun k hk => (hown.lt k hk).1)).setCell (p := ⟨b, 1, none⟩) hB _
end Go.Proofs.YtiojgdjpigcgaaaGreatDoor.Q
end

section
namespace Go.Proofs.YtiojgdjpigcgaaaGreatDoor.Q
open Go.Shelf
open Go.RowKit Go.Proofs.YtiojgdjpigcgaaaGreatDoor.Q Go.Proofs.YtiojgdjpigcgaaaGreatDoorW.PrintWords Go.Proofs.YtiojgdjpigcgaaaGreatDoorW.PrintLast Go.Proofs.YtiojgdjpigcgaaaGreatDoorW.PrintMore
set_option linter.unusedVariables false
set_option linter.unusedSimpArgs false
attribute [local go_sem] Oper.semAt_some
def encI (x : Int × Int) : Array Value := #[.int .i64 x.1, .int .i64 x.2]
def bwI (zs : List Int) (j : Nat) : Int × Int := ((zs.length : Int) - 1 - j, rd zs ((zs.length : Int) - 1 - j))
set_option maxRecDepth 100000 in
set_option maxHeartbeats 2000000 in
theorem backI1_in {α : Type} (pr : α → Int × Int) (f : Nat → α) (F : Fence) (n : Nat) (h7 : F.fn 208) (hro : F.round = none) (hn : 1 ≤ n) (l Bs : Nat) (w0 : World) (A : Option Addr) (cap : Nat) (zs : List Int) (hcap : zs.length ≤ cap) (hlen : zs.length ≤ 1152921504606846976)
    (hC : Kd.C (Kd.int .i64) w0 A zs.length zs) (hf : ∀ k, k < zs.length → pr (f k) = bwI zs k) (J Jx : List α → World → Prop)
    (hY : ∀ pre x W, J pre W → pre.length < zs.length → YieldAt F (n - 1) Tryz.prog l (encI (pr x)) W fun e W' =>
      (e = .returned (.bool true) ∧ J (pre ++ [x]) W' ∧ KpB w0.heap.size Bs W W') ∨ (e = .returned (.bool false) ∧ Jx (pre ++ [x]) W'))
    (W : World) (hB : Below w0.heap.size w0 W) (hBs : CellsAt W Bs 111 #[.slice A zs.length cap]) (h0 : J [] W) :
    CallsIn F n Tryz.prog 208 #[.func (.yield l) #[] #[], .pointer (some ⟨Bs, 0, none⟩)] W fun e W' => (∃ v, e = .returned v) ∧
      ((∃ ys, ys = upto f zs.length ∧ J ys W') ∨ (∃ pre, (∃ k, k ≤ zs.length ∧ pre = upto f k) ∧ Jx pre W')) := by
  refine callsIn_of_wp Tryz.func208 rfl h7 ?_ hro
  simp only [Tryz.ntmps208, List.size_toArray, List.length_cons, List.length_nil, Nat.reduceAdd, Nat.reduceSub, Array.replicate_succ, Array.replicate_zero, List.push_toArray, List.append_toArray, List.nil_append, List.cons_append]
  have e1 : wrap64 ((zs.length : Int) - 1) = (zs.length : Int) - 1 := by unfold wrap64; omega
  have hc0 : W.cell? ⟨Bs, 0, none⟩ = some (.slice A zs.length cap) := hBs.cell 0
  gi_wp2
  gi_loopw [3] (fun i wr => ∃ k : Nat, k ≤ zs.length ∧ i = .int .i64 ((zs.length : Int) - 1 - k) ∧ J (upto f k) wr ∧ KpB w0.heap.size Bs W wr)
    (fun i _ => (intOf i + 1).toNat)
  case atStart => exact ⟨0, Nat.zero_le _, by simp [*], h0, KpB.refl _ _ _⟩
  case round =>
    obtain ⟨k, hk, rfl, hJs, hnx⟩ := hrel
    have hbx : CellsAt wr Bs 111 #[.slice A zs.length cap] := hnx.2.trans hBs
    have hc1 : wr.cell? ⟨Bs, 0, none⟩ = some (.slice A zs.length cap) := hbx.cell 0
    have hCr := Kd.C_below hC (hB.trans hnx.1)
    by_cases hlt : k < zs.length
    · obtain ⟨fn, tmps, assign, body, hy, hR⟩ := hY _ (f k) wr hJs (by rw [upto_length]; exact hlt)
      rw [hf k hlt] at hy
      simp only [encI, bwI] at hy
      obtain ⟨i, hi⟩ : ∃ i : Int, (zs.length : Int) - 1 - k = i := ⟨_, rfl⟩
      rw [hi] at hy ⊢
      have p0 : 0 ≤ i := by omega
      have q0 : i < (zs.length : Int) := by omega
      obtain ⟨ad, eA, hx0⟩ := Kd.at_int hCr i p0 q0
      subst eA
      have p0' := eq_true p0
      have q0' := eq_true q0
      have d0 : decide (i < 0) = false := decide_eq_false (by omega)
      have d1 : decide (0 ≤ i) = true := decide_eq_true p0
      gi_wp2
      refine hR.mono ?_
      rintro e W3 (⟨rfl, hJ3, hk3⟩ | ⟨rfl, hJx3⟩)
      · have e2 : wrap64 (i - 1) = i - 1 := by unfold wrap64; omega
        gi_wp2
        go_roundw
        case rel => exact ⟨k + 1, by omega, by simp [*]; omega, by rw [upto_succ]; exact hJ3, hnx.trans hk3⟩
        case measure => simp [intOf, e2]; omega
      · gi_wp2
        refine bodyPost_ret (results_none rfl _ _ _) rfl ?_
        exact ⟨⟨_, rfl⟩, .inr ⟨_, ⟨k + 1, by omega, (upto_succ _ _).symm⟩, hJx3⟩⟩
    · obtain rfl : k = zs.length := by omega
      have d0 : decide (0 ≤ (zs.length : Int) - 1 - zs.length) = false := decide_eq_false (by omega)
      gi_wp2
      go_end0
      exact ⟨⟨_, rfl⟩, .inl ⟨_, rfl, hJs⟩⟩
set_option maxHeartbeats 1000000 in
theorem backI_in (F : Fence) (n : Nat) (h5 : F.fn 166) (hro : F.round = none) (a : Option Addr) (len cap : Nat) (w : World) :
    CallsIn F n Tryz.prog 166 #[.slice a len cap] w fun e w' => e = .returned (.func (.func 208) #[] #[.pointer (some ⟨w.heap.size, 0, none⟩)]) ∧ w' = w.alloc (.cells #[.slice a len cap] 111) := by
  refine callsIn_of_wp Tryz.func166 rfl h5 ?_ hro
  simp only [Tryz.ntmps166, List.size_toArray, List.length_cons, List.length_nil, Nat.reduceAdd, Nat.reduceSub, Array.replicate_succ, Array.replicate_zero, List.push_toArray, List.append_toArray, List.nil_append, List.cons_append]
  gi_wp2
  go_ret
  exact ⟨rfl, rfl⟩
theorem backI_stops {α : Type} (pr : α → Int × Int) (f : Nat → α) (F : Fence) (n : Nat) (h7 : F.fn 208) (hro : F.round = none) (hn : 1 ≤ n) (Bs : Nat) (w0 : World) (A : Option Addr) (cap : Nat) (zs : List Int) (hcap : zs.length ≤ cap) (hlen : zs.length ≤ 1152921504606846976)
    (hC : Kd.C (Kd.int .i64) w0 A zs.length zs) (hf : ∀ k, k < zs.length → pr (f k) = bwI zs k) (w : World) (hB : Below w0.heap.size w0 w) (hBs : CellsAt w Bs 111 #[.slice A zs.length cap]) :
    SeqStopsK F n Tryz.prog 208 #[.pointer (some ⟨Bs, 0, none⟩)] (fun x => encI (pr x)) (KpB w0.heap.size Bs) (fun ys => ys = upto f zs.length)
      (fun pre => ∃ k, k ≤ zs.length ∧ pre = upto f k) zs.length w := fun l J Jx W hW _ _ hY h0 =>
  backI1_in pr f F n h7 hro hn l Bs w0 A cap zs hcap hlen hC hf J Jx hY W (hB.trans (hW.mono hB.size)) (hBs.below hW hBs.lt) h0
theorem grownBy_of_below {W W' : World} (h : Below W.heap.size W W') : W.grownBy W' none := ⟨h.os, h.tape, h.output, h.size, fun k hk _ => h.block k hk⟩
theorem builder_below {T e : TypeId} {B b : Nat} {bs : List Value} {W W' : World} (h : Lib.IsBuilderF T e B b bs W) (hb : Below W.heap.size W W') : Lib.IsBuilderF T e B b bs W' := by
  have key : ∀ p, Lib.BuilderAtF T e B b p bs W → Lib.BuilderAtF T e B b p bs W' := fun p h => by
    obtain ⟨hB, v, hbk, hown, hne⟩ := id h
    refine ⟨hB, v, (hb.block b h.lt).trans hbk, hown.kept (grownBy_of_below hb) ?_, hne⟩
    by_cases hv : v.ownBlock = none
    · exact .inl hv
    · exact .inr hv
  exact h.imp (key _) (key _)
theorem keepsFrom_of_others {e : TypeId} {b n : Nat} {W W' : World} (hs : W.heap.size ≤ W'.heap.size) (h : Lib.OthersKept e (some b) W W') (hc : ∃ cs t fz, W.heap[b]? = some (.cells cs t fz)) : KeepsFrom n W W' :=
  ⟨hs, fun k o _ hk ho => h k o hk (fun e' => by cases e'; obtain ⟨cs, t, fz, hc⟩ := hc; rw [hk] at hc; cases hc; cases ho) (fun c fz e' => by subst e'; cases ho)⟩
theorem keepsFrom_of_below {n : Nat} {W W' : World} (h : Below W.heap.size W W') : KeepsFrom n W W' :=
  ⟨h.size, fun k o _ hk _ => (h.block k (Array.getElem?_eq_some_iff.1 hk).1).trans hk⟩
/-- A builder stays one while what is no cells turns. -/
theorem builder_own {β : Type} (T e : TypeId) (B b : Nat) (f : β → List Value) : Own (fun s W => Lib.IsBuilderF T e B b (f s) W) := fun s X Y row hs hg hr => by
  have key : ∀ p, Lib.BuilderAtF T e B b p (f s) X → Lib.BuilderAtF T e B b p (f s) Y := fun p h => by
    obtain ⟨hB, v, hbk, hown, hne⟩ := id h
    refine ⟨hB, v, (hg.block b h.lt (fun e' => ?_)).trans hbk, hown.kept hg ?_, hne⟩
    · obtain ⟨o, ho, hc⟩ := hr b e'.symm
      rw [hbk] at ho; cases ho; cases hc
    · by_cases hv : v.ownBlock = none
      · exact .inl hv
      · refine .inr fun e' => ?_
        obtain ⟨g, hgk⟩ := Option.ne_none_iff_exists'.1 hv
        obtain ⟨o, ho, hc⟩ := hr g (by rw [← e', hgk])
        obtain ⟨c, fz, hk⟩ := Lib.ownsRowF_kind hown g hgk
        rw [hk] at ho; cases ho; cases hc
  exact hs.imp (key _) (key _)
/-- A limb, and its place. -/
abbrev Limb := { x : Int × Int // 0 ≤ x.2 ∧ x.2 ≤ 9999 }
theorem rd_limb {zs : List Int} (hz : ∀ y ∈ zs, 0 ≤ y ∧ y ≤ 9999) (i : Int) : 0 ≤ rd zs i ∧ rd zs i ≤ 9999 := by
  unfold rd
  rw [List.getD_eq_getElem?_getD]
  cases h : zs[i.toNat]? with
  | none => simp
  | some y => exact hz y (List.mem_of_getElem? h)
def limbAt (zs : List Int) (hz : ∀ y ∈ zs, 0 ≤ y ∧ y ≤ 9999) (k : Nat) : Limb := ⟨bwI zs k, rd_limb hz _⟩
/-- A limb's figures: the top one as it is, any other four figures wide. -/
def piece (n : Int) (x : Int × Int) : List UInt8 := if x.1 < n - 1 then Lib.repeatL [48] (4 - (Lib.itoa x.2).length) ++ Lib.itoa x.2 else Lib.itoa x.2
theorem decDigits_len : ∀ (k u : Nat), u < 10 ^ (k + 1) → (Lib.decDigits u).length ≤ k + 1 := by
  intro k
  induction k with
  | zero => intro u h; rw [Lib.decDigits, dif_pos (by simpa using h)]; simp
  | succ k ih =>
    intro u h
    rw [Lib.decDigits]
    by_cases hu : u < 10
    · rw [dif_pos hu]; simp
    · rw [dif_neg hu, List.length_append]
      have := ih (u / 10) (by rw [Nat.pow_succ] at h; omega)
      simp only [List.length_cons, List.length_nil]
      omega
theorem itoa_len (x : Int) (h0 : 0 ≤ x) (h1 : x ≤ 9999) : (Lib.itoa x).length ≤ 4 := by
  unfold Lib.itoa
  rw [if_neg (by omega)]
  exact decDigits_len 3 x.toNat (by omega)
/-- Limbs as a text. -/
def textF (zs : List Int) : List UInt8 := if zs = [] then [48] else (upto (bwI zs) zs.length).flatMap (piece zs.length)
end Go.Proofs.YtiojgdjpigcgaaaGreatDoor.Q
end

section
/-! Rf: slices.Backward keeps its contract. -/
set_option autoImplicit false
set_option linter.unusedVariables false
set_option linter.unusedSimpArgs false
namespace Go.Proofs.YtiojgdjpigcgaaaGreatDoor.R
open Go.Rf
section
open Go.Shelf Go.RowKit Go.Proofs.YtiojgdjpigcgaaaGreatDoor.Q Go.Proofs.YtiojgdjpigcgaaaGreatDoorW.PrintWords Go.Proofs.YtiojgdjpigcgaaaGreatDoorW.PrintLast Go.Proofs.YtiojgdjpigcgaaaGreatDoorW.PrintMore
attribute [local go_sem] Oper.semAt_some
set_option maxRecDepth 100000 in
set_option maxHeartbeats 2000000 in
theorem iter_ok : IterOk Tryz.prog 208 := by
  intro B T A cap vs l J W hcap hlen hJ hY h0
  refine (callsIn_wide (n := 1)).1 ?_
  refine callsIn_of_wp Tryz.func208 rfl trivial ?_ rfl
  simp only [Tryz.ntmps208, List.size_toArray, List.length_cons, List.length_nil, Nat.reduceAdd, Nat.reduceSub, Array.replicate_succ, Array.replicate_zero, List.push_toArray, List.append_toArray, List.nil_append, List.cons_append]
  have e1 : Go.RowKit.wrap64 ((vs.length : Int) - 1) = (vs.length : Int) - 1 := by unfold Go.RowKit.wrap64; omega
  have hc0 : W.cell? ⟨B, 0, none⟩ = some (.slice A vs.length cap) := by simp [World.cell?, (hJ 0 W h0).1]
  gi_wp2
  gi_loopw [3] (fun i wr => ∃ k : Nat, k ≤ vs.length ∧ i = .int .i64 ((vs.length : Int) - 1 - k) ∧ J k wr)
    (fun i _ => (intOf i + 1).toNat)
  case atStart => exact ⟨0, Nat.zero_le _, by simp [*], h0⟩
  case round =>
    obtain ⟨k, hk, rfl, hJs⟩ := hrel
    obtain ⟨hbx, hcs⟩ := hJ k wr hJs
    have hc1 : wr.cell? ⟨B, 0, none⟩ = some (.slice A vs.length cap) := by simp [World.cell?, hbx]
    by_cases hlt : k < vs.length
    · obtain ⟨u, hu⟩ : ∃ u, vs[vs.length - 1 - k]? = some u := ⟨vs[vs.length - 1 - k]'(by omega), List.getElem?_eq_getElem (by omega)⟩
      obtain ⟨ad, eA, hspot, hx0⟩ := hcs _ u hu
      obtain ⟨fn, tmps, assign, body, hy, hR⟩ := hY k wr u hJs hlt hu
      have ei : ((vs.length - 1 - k : Nat) : Int) = (vs.length : Int) - 1 - k := by omega
      rw [ei] at hy
      obtain ⟨i, hi⟩ : ∃ i : Int, (vs.length : Int) - 1 - k = i := ⟨_, rfl⟩
      rw [hi] at hy ⊢
      have p0 : 0 ≤ i := by omega
      have q0 : i < (vs.length : Int) := by omega
      have ein : vs.length - 1 - k = i.toNat := by omega
      rw [ein] at hx0
      subst eA
      have p0' := eq_true p0
      have q0' := eq_true q0
      have d0 : decide (i < 0) = false := decide_eq_false (by omega)
      have d1 : decide (0 ≤ i) = true := decide_eq_true p0
      gi_wp2
      refine hR.mono ?_
      rintro e W3 ⟨rfl, hJ3⟩
      have e2 : Go.RowKit.wrap64 (i - 1) = i - 1 := by unfold Go.RowKit.wrap64; omega
      gi_wp2
      go_roundw
      case rel => exact ⟨k + 1, by omega, by simp [*]; omega, hJ3⟩
      case measure => simp [intOf, e2]; omega
    · obtain rfl : k = vs.length := by omega
      have d0 : decide (0 ≤ (vs.length : Int) - 1 - vs.length) = false := decide_eq_false (by omega)
      gi_wp2
      go_end0
      exact ⟨⟨_, rfl⟩, hJs⟩
theorem back_ok : BackOk Tryz.prog 166 208 111 := fun A len cap w => callsIn_wide.1 (Q.backI_in Fence.wide 9 trivial rfl A len cap w)
theorem iter_known : isKnown Tryz.prog 208 = true := by kernel_rfl
end
theorem backs_ok : BacksOk Tryz.prog [(166, 208, 111)] := ⟨⟨back_ok, iter_ok, iter_known⟩, trivial⟩
end Go.Proofs.YtiojgdjpigcgaaaGreatDoor.R
end

section
/-! Rf: the seat's tables. -/
set_option autoImplicit false
namespace Go.Proofs.YtiojgdjpigcgaaaGreatDoor.R
open Go.Rf
noncomputable def tabs : Tabs where
  ty := [(3, ⟨false, [.int .i64], [], 8⟩),
    (4, ⟨false, [.bool], [], 1⟩),
    (5, ⟨false, [.int .u8], [], 1⟩),
    (9, ⟨false, [.str], [], 16⟩),
    (22, ⟨false, [.sl (.int .u8)], [], 24⟩),
    (23, ⟨false, [.sl (.int .i64)], [], 24⟩),
    (25, ⟨true, [.bool, .sl (.int .i64)], [(0, 1, false), (1, 1, false)], 32⟩),
    (27, ⟨true, [.bool, .sl (.int .i64), .int .i64], [(0, 2, true), (2, 1, false)], 40⟩),
    (29, ⟨true, [.int .i64, .int .i64], [(0, 1, false), (1, 1, false)], 16⟩),
    (31, ⟨true, [.int .i64, .bool, .bool, .sl (.int .i64), .int .i64, .int .i64, .int .i64, .int .i64, .str], [(0, 1, false), (1, 1, false), (2, 3, true), (5, 1, false), (6, 2, true), (8, 1, false)], 96⟩),
    (43, ⟨false, [.sl (.pair (.int .i64) (.pair .bool (.pair .bool (.pair (.sl (.int .i64)) (.pair (.int .i64) (.pair (.int .i64) (.pair (.int .i64) (.pair (.int .i64) (.pair .str .unit)))))))))], [], 24⟩),
    (44, ⟨false, [.sl .bool], [], 24⟩),
    (49, ⟨true, [.bool, .sl (.int .i64)], [(0, 1, false), (1, 1, false)], 32⟩),
    (51, ⟨true, [.bool, .sl (.int .i64), .int .i64], [(0, 2, true), (2, 1, false)], 40⟩),
    (52, ⟨true, [.int .i64, .int .i64], [(0, 1, false), (1, 1, false)], 16⟩),
    (54, ⟨true, [.int .i64, .bool, .bool, .sl (.int .i64), .int .i64, .int .i64, .int .i64, .int .i64, .str], [(0, 1, false), (1, 1, false), (2, 3, true), (5, 1, false), (6, 2, true), (8, 1, false)], 96⟩),
    (82, ⟨false, [.sl (.pair (.int .i64) (.pair (.int .i64) (.pair (.int .i64) .unit)))], [], 24⟩),
    (111, ⟨false, [.sl (.int .i64)], [], 24⟩),
    (117, ⟨true, [.sl (.int .u8), .int .i64], [(0, 1, false), (1, 1, false)], 32⟩),
    (119, ⟨true, [.int .i64, .int .i64, .int .i64], [(0, 1, false), (1, 1, false), (2, 1, false)], 24⟩),
    (123, ⟨false, [.sl .str], [], 24⟩),
    (168, ⟨true, [.bool, .sl (.int .i64)], [(0, 1, false), (1, 1, false)], 32⟩),
    (192, ⟨false, [.int .u64], [], 8⟩)]
  el := [(22, 5), (23, 3), (43, 31), (44, 4), (82, 119), (111, 3), (123, 9)]
  ifcs := []
  known := [5, 6, 12, 13, 16, 19, 20, 21, 22, 23, 24, 25, 33, 34, 35, 36, 37, 39, 40, 45, 46, 49, 50, 51, 52, 53, 54, 55, 56, 57, 58, 59, 60, 61, 62, 63, 64, 65, 66, 67, 68, 70, 71, 72, 73, 74, 75, 76, 77, 78, 79, 80, 81, 82, 83, 84, 85, 86, 87, 88, 91, 95, 98, 99, 100, 101, 102, 103, 104, 105, 106, 107, 108, 109, 110, 111, 112, 113, 114, 115, 116, 117, 118, 119, 120, 121, 122, 123, 124, 125, 126, 127, 128, 129, 130, 139, 140, 143, 146, 147, 148, 149, 150, 151, 152, 153, 154, 155, 156, 157, 158, 159, 161, 162, 163, 164, 165, 166, 178, 179, 186, 187, 188, 189, 190, 191, 192, 193, 194, 195, 196, 197, 198, 199, 200, 202, 203, 204, 205, 206, 207, 222, 223, 224, 225, 226, 227, 228, 236, 237, 238, 239]
  spec := [(5, ⟨[.c (.v (.sl (.int .u8)))], [.c (.v .bool)]⟩),
    (6, ⟨[.agg [.v (.int .i64), .v .bool, .v .bool, .v (.sl (.int .i64)), .v (.int .i64), .v (.int .i64), .v (.int .i64), .v (.int .i64), .v .str], .c (.v .bool)], [.c (.v .bool)]⟩),
    (12, ⟨[.c (.v .str), .c (.v .str)], [.c (.v (.int .i64))]⟩),
    (13, ⟨[.agg [.v (.int .i64), .v .bool, .v .bool, .v (.sl (.int .i64)), .v (.int .i64), .v (.int .i64), .v (.int .i64), .v (.int .i64), .v .str], .c (.v .bool)], [.c (.v .str)]⟩),
    (16, ⟨[.agg [.v (.int .i64), .v .bool, .v .bool, .v (.sl (.int .i64)), .v (.int .i64), .v (.int .i64), .v (.int .i64), .v (.int .i64), .v .str], .agg [.v (.int .i64), .v .bool, .v .bool, .v (.sl (.int .i64)), .v (.int .i64), .v (.int .i64), .v (.int .i64), .v (.int .i64), .v .str]], [.c (.v .bool)]⟩),
    (19, ⟨[.c (.v (.sl (.int .u8)))], [.c (.v (.sl (.pair (.int .i64) (.pair .bool (.pair .bool (.pair (.sl (.int .i64)) (.pair (.int .i64) (.pair (.int .i64) (.pair (.int .i64) (.pair (.int .i64) (.pair .str .unit))))))))))), .c (.v (.sl (.pair (.int .i64) (.pair .bool (.pair .bool (.pair (.sl (.int .i64)) (.pair (.int .i64) (.pair (.int .i64) (.pair (.int .i64) (.pair (.int .i64) (.pair .str .unit))))))))))), .c (.v (.sl (.int .i64))), .c (.v (.sl .bool))]⟩),
    (20, ⟨[.c (.v (.sl (.pair (.int .i64) (.pair .bool (.pair .bool (.pair (.sl (.int .i64)) (.pair (.int .i64) (.pair (.int .i64) (.pair (.int .i64) (.pair (.int .i64) (.pair .str .unit))))))))))), .c (.v (.sl (.pair (.int .i64) (.pair .bool (.pair .bool (.pair (.sl (.int .i64)) (.pair (.int .i64) (.pair (.int .i64) (.pair (.int .i64) (.pair (.int .i64) (.pair .str .unit))))))))))), .c (.v (.sl (.int .i64))), .c (.v (.sl .bool))], [.c (.v (.int .i64))]⟩),
    (21, ⟨[.c (.v (.sl (.pair (.int .i64) (.pair .bool (.pair .bool (.pair (.sl (.int .i64)) (.pair (.int .i64) (.pair (.int .i64) (.pair (.int .i64) (.pair (.int .i64) (.pair .str .unit))))))))))), .c (.v (.sl (.pair (.int .i64) (.pair .bool (.pair .bool (.pair (.sl (.int .i64)) (.pair (.int .i64) (.pair (.int .i64) (.pair (.int .i64) (.pair (.int .i64) (.pair .str .unit))))))))))), .c (.v (.sl (.int .i64))), .c (.v (.sl .bool))], [.c (.v (.int .i64))]⟩),
    (22, ⟨[.c (.v (.sl (.pair (.int .i64) (.pair .bool (.pair .bool (.pair (.sl (.int .i64)) (.pair (.int .i64) (.pair (.int .i64) (.pair (.int .i64) (.pair (.int .i64) (.pair .str .unit))))))))))), .c (.v (.sl .bool))], [.c (.v .str)]⟩),
    (23, ⟨[.agg [.v (.int .i64), .v .bool, .v .bool, .v (.sl (.int .i64)), .v (.int .i64), .v (.int .i64), .v (.int .i64), .v (.int .i64), .v .str], .c (.v (.int .i64))], [.c (.v (.int .i64))]⟩),
    (24, ⟨[.agg [.v (.int .i64), .v .bool, .v .bool, .v (.sl (.int .i64)), .v (.int .i64), .v (.int .i64), .v (.int .i64), .v (.int .i64), .v .str], .c (.v .bool)], [.c (.v .str)]⟩),
    (25, ⟨[.agg [.v (.int .i64), .v .bool, .v .bool, .v (.sl (.int .i64)), .v (.int .i64), .v (.int .i64), .v (.int .i64), .v (.int .i64), .v .str]], [.agg [.v (.int .i64), .v .bool, .v .bool, .v (.sl (.int .i64)), .v (.int .i64), .v (.int .i64), .v (.int .i64), .v (.int .i64), .v .str]]⟩),
    (33, ⟨[.agg [.v (.int .i64), .v .bool, .v .bool, .v (.sl (.int .i64)), .v (.int .i64), .v (.int .i64), .v (.int .i64), .v (.int .i64), .v .str]], [.c (.v .bool)]⟩),
    (34, ⟨[.agg [.v (.int .i64), .v .bool, .v .bool, .v (.sl (.int .i64)), .v (.int .i64), .v (.int .i64), .v (.int .i64), .v (.int .i64), .v .str], .agg [.v (.int .i64), .v .bool, .v .bool, .v (.sl (.int .i64)), .v (.int .i64), .v (.int .i64), .v (.int .i64), .v (.int .i64), .v .str]], [.c (.v (.int .i64))]⟩),
    (35, ⟨[.agg [.v (.int .i64), .v .bool, .v .bool, .v (.sl (.int .i64)), .v (.int .i64), .v (.int .i64), .v (.int .i64), .v (.int .i64), .v .str]], [.c (.v .bool)]⟩),
    (36, ⟨[.agg [.v (.int .i64), .v .bool, .v .bool, .v (.sl (.int .i64)), .v (.int .i64), .v (.int .i64), .v (.int .i64), .v (.int .i64), .v .str], .agg [.v (.int .i64), .v .bool, .v .bool, .v (.sl (.int .i64)), .v (.int .i64), .v (.int .i64), .v (.int .i64), .v (.int .i64), .v .str]], [.c (.v (.int .i64))]⟩),
    (37, ⟨[.agg [.v (.int .i64), .v .bool, .v .bool, .v (.sl (.int .i64)), .v (.int .i64), .v (.int .i64), .v (.int .i64), .v (.int .i64), .v .str], .c (.v .bool)], [.c (.v (.sl (.int .u8)))]⟩),
    (39, ⟨[.c (.v (.sl (.int .u8)))], [.c (.v (.sl (.int .u8)))]⟩),
    (40, ⟨[.c (.v (.int .i64)), .c (.v (.int .i64)), .c (.v (.int .i64))], [.c (.v .bool)]⟩),
    (45, ⟨[.agg [.v .bool, .v (.sl (.int .i64)), .v (.int .i64)], .agg [.v .bool, .v (.sl (.int .i64)), .v (.int .i64)]], [.c (.v .bool)]⟩),
    (46, ⟨[.agg [.v (.int .i64), .v (.int .i64)], .agg [.v (.int .i64), .v (.int .i64)]], [.c (.v .bool)]⟩),
    (49, ⟨[.c (.v (.sl (.int .u8)))], [.box [.v (.sl (.int .u8)), .v (.int .i64)]]⟩),
    (50, ⟨[.box [.v (.sl (.int .u8)), .v (.int .i64)]], [.c (.v (.sl (.pair (.int .i64) (.pair (.int .i64) (.pair (.int .i64) .unit)))))]⟩),
    (51, ⟨[.box [.v (.sl (.int .u8)), .v (.int .i64)], .c (.v (.sl (.pair (.int .i64) (.pair (.int .i64) (.pair (.int .i64) .unit)))))], [.c (.o (.pair (.int .i64) (.pair .bool (.pair .bool (.pair (.sl (.int .i64)) (.pair (.int .i64) (.pair (.int .i64) (.pair (.int .i64) (.pair (.int .i64) (.pair .str .unit))))))))) 31 true)]⟩),
    (52, ⟨[.box [.v (.sl (.int .u8)), .v (.int .i64)], .c (.v (.int .i64))], [.c (.v (.int .i64))]⟩),
    (53, ⟨[.box [.v (.sl (.int .u8)), .v (.int .i64)], .c (.v (.int .i64))], [.c (.o .bool 4 true)]⟩),
    (54, ⟨[.box [.v (.sl (.int .u8)), .v (.int .i64)], .c (.o (.int .i64) 3 false)], [.c (.v (.int .i64))]⟩),
    (55, ⟨[.box [.v (.sl (.int .u8)), .v (.int .i64)]], [.agg [.v (.int .i64), .v .bool, .v .bool, .v (.sl (.int .i64)), .v (.int .i64), .v (.int .i64), .v (.int .i64), .v (.int .i64), .v .str]]⟩),
    (56, ⟨[.agg [.v (.int .i64), .v .bool, .v .bool, .v (.sl (.int .i64)), .v (.int .i64), .v (.int .i64), .v (.int .i64), .v (.int .i64), .v .str]], [.c (.v .bool)]⟩),
    (59, ⟨[.c (.v (.int .i64)), .c (.v (.ref (.sl (.pair (.int .i64) (.pair .bool (.pair .bool (.pair (.sl (.int .i64)) (.pair (.int .i64) (.pair (.int .i64) (.pair (.int .i64) (.pair (.int .i64) (.pair .str .unit))))))))))))], [.c (.v .bool)]⟩),
    (60, ⟨[.c (.v (.sl (.pair (.int .i64) (.pair .bool (.pair .bool (.pair (.sl (.int .i64)) (.pair (.int .i64) (.pair (.int .i64) (.pair (.int .i64) (.pair (.int .i64) (.pair .str .unit))))))))))), .c (.v (.sl (.pair (.int .i64) (.pair .bool (.pair .bool (.pair (.sl (.int .i64)) (.pair (.int .i64) (.pair (.int .i64) (.pair (.int .i64) (.pair (.int .i64) (.pair .str .unit))))))))))), .c (.v (.sl (.int .i64))), .c (.v (.sl .bool))], [.c (.v (.int .i64))]⟩),
    (61, ⟨[.c (.v (.sl (.pair (.int .i64) (.pair .bool (.pair .bool (.pair (.sl (.int .i64)) (.pair (.int .i64) (.pair (.int .i64) (.pair (.int .i64) (.pair (.int .i64) (.pair .str .unit)))))))))))], [.c (.v .bool)]⟩),
    (62, ⟨[.c (.v (.sl (.int .i64))), .c (.v (.sl .bool)), .c (.v (.int .i64))], [.c (.v .bool)]⟩),
    (63, ⟨[.c (.v (.sl (.pair (.int .i64) (.pair .bool (.pair .bool (.pair (.sl (.int .i64)) (.pair (.int .i64) (.pair (.int .i64) (.pair (.int .i64) (.pair (.int .i64) (.pair .str .unit))))))))))), .c (.v (.sl (.pair (.int .i64) (.pair .bool (.pair .bool (.pair (.sl (.int .i64)) (.pair (.int .i64) (.pair (.int .i64) (.pair (.int .i64) (.pair (.int .i64) (.pair .str .unit))))))))))), .c (.v (.sl (.int .i64))), .c (.v (.sl .bool))], [.c (.v (.int .i64))]⟩),
    (64, ⟨[.c (.v (.sl (.pair (.int .i64) (.pair .bool (.pair .bool (.pair (.sl (.int .i64)) (.pair (.int .i64) (.pair (.int .i64) (.pair (.int .i64) (.pair (.int .i64) (.pair .str .unit))))))))))), .c (.v (.sl .bool))], [.c (.v .str)]⟩),
    (65, ⟨[.agg [.v .bool, .v (.sl (.int .i64)), .v (.int .i64)], .c (.v (.int .i64))], [.c (.v (.int .i64))]⟩),
    (66, ⟨[.agg [.v (.int .i64), .v .bool, .v .bool, .v (.sl (.int .i64)), .v (.int .i64), .v (.int .i64), .v (.int .i64), .v (.int .i64), .v .str], .c (.v .bool)], [.c (.v .str)]⟩),
    (67, ⟨[.agg [.v .bool, .v (.sl (.int .i64)), .v (.int .i64)]], [.agg [.v .bool, .v (.sl (.int .i64)), .v (.int .i64)]]⟩),
    (68, ⟨[.agg [.v (.int .i64), .v (.int .i64)]], [.agg [.v (.int .i64), .v (.int .i64)]]⟩),
    (70, ⟨[.box [.v (.sl (.int .u8)), .v (.int .i64)], .c (.v (.int .i64))], [.agg [.v (.int .i64), .v .bool, .v .bool, .v (.sl (.int .i64)), .v (.int .i64), .v (.int .i64), .v (.int .i64), .v (.int .i64), .v .str]]⟩),
    (71, ⟨[.agg [.v .bool, .v (.sl (.int .i64)), .v (.int .i64)]], [.c (.v .bool)]⟩),
    (72, ⟨[.c (.v (.int .i64))], [.c (.v .bool)]⟩),
    (73, ⟨[.agg [.v (.int .i64), .v (.int .i64)]], [.c (.v .bool)]⟩),
    (74, ⟨[.agg [.v .bool, .v (.sl (.int .i64)), .v (.int .i64)]], [.c (.v .bool)]⟩),
    (75, ⟨[.c (.v (.int .i64)), .c (.v (.int .i64))], [.c (.v (.int .i64))]⟩),
    (76, ⟨[.agg [.v (.int .i64), .v .bool, .v .bool, .v (.sl (.int .i64)), .v (.int .i64), .v (.int .i64), .v (.int .i64), .v (.int .i64), .v .str], .agg [.v (.int .i64), .v .bool, .v .bool, .v (.sl (.int .i64)), .v (.int .i64), .v (.int .i64), .v (.int .i64), .v (.int .i64), .v .str]], [.c (.v (.int .i64))]⟩),
    (77, ⟨[.c (.v (.int .i64)), .c (.v (.int .i64)), .c (.v (.int .i64))], [.c (.v .bool)]⟩),
    (78, ⟨[.agg [.v (.int .i64), .v .bool, .v .bool, .v (.sl (.int .i64)), .v (.int .i64), .v (.int .i64), .v (.int .i64), .v (.int .i64), .v .str]], [.c (.v .bool)]⟩),
    (79, ⟨[.agg [.v .bool, .v (.sl (.int .i64)), .v (.int .i64)]], [.c (.v .bool)]⟩),
    (80, ⟨[.c (.v (.int .i64))], [.c (.v .bool)]⟩),
    (81, ⟨[.agg [.v (.int .i64), .v (.int .i64)]], [.c (.v .bool)]⟩),
    (82, ⟨[.c (.v .str)], [.c (.v .bool)]⟩),
    (83, ⟨[.c (.v (.int .i64)), .c (.v (.int .i64))], [.c (.v (.int .i64))]⟩),
    (84, ⟨[.agg [.v (.int .i64), .v .bool, .v .bool, .v (.sl (.int .i64)), .v (.int .i64), .v (.int .i64), .v (.int .i64), .v (.int .i64), .v .str], .agg [.v (.int .i64), .v .bool, .v .bool, .v (.sl (.int .i64)), .v (.int .i64), .v (.int .i64), .v (.int .i64), .v (.int .i64), .v .str]], [.c (.v (.int .i64))]⟩),
    (85, ⟨[.c (.v .bool)], [.c (.v (.int .i64))]⟩),
    (86, ⟨[.agg [.v .bool, .v (.sl (.int .i64)), .v (.int .i64)]], [.c (.v (.sl (.int .u8)))]⟩),
    (87, ⟨[.c (.v (.int .i64))], [.c (.v (.sl (.int .u8)))]⟩),
    (88, ⟨[.c (.v .str)], [.c (.v .str)]⟩),
    (91, ⟨[.c (.v .bool), .c (.v (.sl (.int .i64)))], [.agg [.v .bool, .v (.sl (.int .i64))], .c (.v .bool)]⟩),
    (95, ⟨[.agg [.v .bool, .v (.sl (.int .i64))], .agg [.v .bool, .v (.sl (.int .i64))]], [.c (.v .bool)]⟩),
    (98, ⟨[.box [.v (.sl (.int .u8)), .v (.int .i64)]], [.agg [.v (.int .i64), .v (.int .i64), .v (.int .i64)]]⟩),
    (99, ⟨[.box [.v (.sl (.int .u8)), .v (.int .i64)], .agg [.v (.int .i64), .v (.int .i64), .v (.int .i64)]], [.agg [.v (.int .i64), .v .bool, .v .bool, .v (.sl (.int .i64)), .v (.int .i64), .v (.int .i64), .v (.int .i64), .v (.int .i64), .v .str]]⟩),
    (100, ⟨[.box [.v (.sl (.int .u8)), .v (.int .i64)]], [.agg [.v (.int .i64), .v .bool, .v .bool, .v (.sl (.int .i64)), .v (.int .i64), .v (.int .i64), .v (.int .i64), .v (.int .i64), .v .str]]⟩),
    (101, ⟨[.box [.v (.sl (.int .u8)), .v (.int .i64)], .c (.o .str 9 false)], [.c (.v .str)]⟩),
    (102, ⟨[.box [.v (.sl (.int .u8)), .v (.int .i64)]], [.agg [.v .bool, .v (.sl (.int .i64)), .v (.int .i64)]]⟩),
    (103, ⟨[.box [.v (.sl (.int .u8)), .v (.int .i64)]], [.c (.v (.int .i64))]⟩),
    (104, ⟨[.box [.v (.sl (.int .u8)), .v (.int .i64)]], [.agg [.v (.int .i64), .v (.int .i64)]]⟩),
    (107, ⟨[.agg [.v .bool, .v (.sl (.int .i64))], .c (.v (.int .i64))], [.c (.v (.int .i64))]⟩),
    (108, ⟨[.agg [.v (.int .i64), .v .bool, .v .bool, .v (.sl (.int .i64)), .v (.int .i64), .v (.int .i64), .v (.int .i64), .v (.int .i64), .v .str]], [.c (.v .str)]⟩),
    (109, ⟨[.agg [.v .bool, .v (.sl (.int .i64))]], [.agg [.v .bool, .v (.sl (.int .i64))]]⟩),
    (110, ⟨[.c (.v .bool)], [.agg [.v (.int .i64), .v .bool, .v .bool, .v (.sl (.int .i64)), .v (.int .i64), .v (.int .i64), .v (.int .i64), .v (.int .i64), .v .str]]⟩),
    (111, ⟨[.agg [.v .bool, .v (.sl (.int .i64)), .v (.int .i64)]], [.agg [.v (.int .i64), .v .bool, .v .bool, .v (.sl (.int .i64)), .v (.int .i64), .v (.int .i64), .v (.int .i64), .v (.int .i64), .v .str]]⟩),
    (112, ⟨[.box [.v (.sl (.int .u8)), .v (.int .i64)]], [.agg [.v .bool, .v (.sl (.int .i64)), .v (.int .i64)]]⟩),
    (113, ⟨[.box [.v (.sl (.int .u8)), .v (.int .i64)]], [.c (.v (.int .i64))]⟩),
    (114, ⟨[.box [.v (.sl (.int .u8)), .v (.int .i64)]], [.agg [.v (.int .i64), .v (.int .i64)]]⟩),
    (115, ⟨[.box [.v (.sl (.int .u8)), .v (.int .i64)]], [.c (.v .str)]⟩),
    (116, ⟨[.agg [.v .bool, .v (.sl (.int .i64))]], [.c (.v .bool)]⟩),
    (117, ⟨[.c (.v (.sl (.int .i64)))], [.c (.v (.int .i64))]⟩),
    (118, ⟨[.c (.v (.int .i64))], [.c (.v .bool)]⟩),
    (119, ⟨[.agg [.v .bool, .v (.sl (.int .i64)), .v (.int .i64)], .agg [.v .bool, .v (.sl (.int .i64)), .v (.int .i64)]], [.c (.v (.int .i64))]⟩),
    (120, ⟨[.c (.v (.sl (.int .i64)))], [.c (.v (.int .i64))]⟩),
    (121, ⟨[.c (.v .str), .c (.v .str)], [.c (.v (.int .i64))]⟩),
    (122, ⟨[.agg [.v .bool, .v (.sl (.int .i64)), .v (.int .i64)]], [.c (.v .bool)]⟩),
    (123, ⟨[.agg [.v .bool, .v (.sl (.int .i64))]], [.c (.v .bool)]⟩),
    (124, ⟨[.c (.v (.sl (.int .i64)))], [.c (.v (.int .i64))]⟩),
    (125, ⟨[.c (.v .bool)], [.c (.v (.int .i64))]⟩),
    (126, ⟨[.agg [.v .bool, .v (.sl (.int .i64)), .v (.int .i64)], .agg [.v .bool, .v (.sl (.int .i64)), .v (.int .i64)]], [.c (.v (.int .i64))]⟩),
    (127, ⟨[.c (.v .str), .c (.v .str)], [.c (.v (.int .i64))]⟩),
    (128, ⟨[.agg [.v .bool, .v (.sl (.int .i64)), .v (.int .i64)]], [.agg [.v .bool, .v (.sl (.int .i64)), .v (.int .i64)]]⟩),
    (129, ⟨[.c (.v (.sl (.int .i64)))], [.c (.v .str)]⟩),
    (130, ⟨[.c (.v .str), .c (.v .str)], [.c (.v .str)]⟩),
    (139, ⟨[.c (.v (.sl (.int .i64)))], [.c (.v (.sl (.int .i64)))]⟩),
    (140, ⟨[.c (.v (.sl (.int .i64)))], [.c (.v (.sl (.int .i64)))]⟩),
    (143, ⟨[.c (.v (.sl (.int .i64))), .c (.v (.sl (.int .i64)))], [.c (.v .bool)]⟩),
    (146, ⟨[.agg [.v .bool, .v (.sl (.int .i64)), .v (.int .i64)], .agg [.v (.int .i64), .v (.int .i64), .v (.int .i64)]], [.agg [.v (.int .i64), .v .bool, .v .bool, .v (.sl (.int .i64)), .v (.int .i64), .v (.int .i64), .v (.int .i64), .v (.int .i64), .v .str], .c (.v (.int .i64))]⟩),
    (147, ⟨[.box [.v (.sl (.int .u8)), .v (.int .i64)], .c (.v (.int .i64))], [.agg [.v .bool, .o (.int .i64) 3 true]]⟩),
    (148, ⟨[.box [.v (.sl (.int .u8)), .v (.int .i64)]], [.agg [.v .bool, .v (.sl (.int .i64))]]⟩),
    (149, ⟨[.c (.v (.sl (.int .i64))), .c (.v (.int .i64))], [.c (.v (.int .i64))]⟩),
    (150, ⟨[.agg [.v .bool, .v (.sl (.int .i64)), .v (.int .i64)]], [.c (.v .str)]⟩),
    (151, ⟨[.c (.v (.int .i64))], [.c (.v .str)]⟩),
    (152, ⟨[.c (.v (.sl (.int .i64)))], [.c (.v (.sl (.int .i64)))]⟩),
    (153, ⟨[.c (.v (.int .i64))], [.agg [.v .bool, .v (.sl (.int .i64))]]⟩),
    (154, ⟨[.c (.v (.int .i64)), .c (.v (.int .i64)), .c (.v (.int .i64))], [.c (.v (.int .i64))]⟩),
    (155, ⟨[.c (.v (.int .i64))], [.c (.v .bool)]⟩),
    (156, ⟨[.agg [.v .bool, .v (.sl (.int .i64)), .v (.int .i64)], .c (.v (.int .i64))], [.agg [.v .bool, .v (.sl (.int .i64))]]⟩),
    (157, ⟨[.agg [.v .bool, .v (.sl (.int .i64))], .agg [.v .bool, .v (.sl (.int .i64))]], [.agg [.v .bool, .v (.sl (.int .i64))]]⟩),
    (158, ⟨[.agg [.v .bool, .v (.sl (.int .i64))]], [.agg [.v .bool, .v (.sl (.int .i64))]]⟩),
    (159, ⟨[.agg [.v .bool, .v (.sl (.int .i64))]], [.c (.v (.int .i64))]⟩),
    (161, ⟨[.c (.v (.sl (.int .i64)))], [.c (.v .str)]⟩),
    (162, ⟨[.c (.v (.int .i64)), .c (.v (.int .i64))], [.c (.v (.int .i64))]⟩),
    (163, ⟨[.agg [.v .bool, .v (.sl (.int .i64)), .v (.int .i64)], .c (.v (.int .i64))], [.c (.v (.sl (.int .i64)))]⟩),
    (164, ⟨[.agg [.v .bool, .v (.sl (.int .i64))], .agg [.v .bool, .v (.sl (.int .i64))]], [.c (.v (.int .i64))]⟩),
    (165, ⟨[.c (.v (.sl (.int .i64))), .c (.v (.sl (.int .i64)))], [.c (.v (.sl (.int .i64))), .c (.v (.sl (.int .i64)))]⟩),
    (178, ⟨[.c (.o (.int .i64) 3 false)], [.c (.v (.sl (.int .i64)))]⟩),
    (179, ⟨[.c (.v (.sl (.int .i64)))], [.c (.o (.int .i64) 3 true)]⟩),
    (186, ⟨[.agg [.v .bool, .v (.sl (.int .i64)), .v (.int .i64)], .c (.v (.int .i64)), .c (.v (.int .i64))], [.agg [.v .bool, .v (.sl (.int .i64)), .v (.int .i64)], .c (.v (.int .i64))]⟩),
    (187, ⟨[.box [.v (.sl (.int .u8)), .v (.int .i64)], .c (.v (.int .i64))], [.c (.v .str)]⟩),
    (188, ⟨[.c (.v .str), .c (.v (.int .i64))], [.c (.v .str)]⟩),
    (189, ⟨[.c (.v .bool), .c (.v (.sl (.int .i64)))], [.agg [.v .bool, .o (.int .i64) 3 true], .c (.v .bool)]⟩),
    (190, ⟨[.c (.v .str)], [.c (.v (.sl (.int .i64)))]⟩),
    (191, ⟨[.agg [.v .bool, .v (.sl (.int .i64)), .v (.int .i64)]], [.agg [.v .bool, .v (.sl (.int .i64)), .v (.int .i64)]]⟩),
    (192, ⟨[.c (.v .str)], [.c (.v .str)]⟩),
    (193, ⟨[.c (.v (.int .i64))], [.c (.v (.int .i64))]⟩),
    (194, ⟨[.c (.v (.int .i64)), .c (.v (.int .i64))], [.c (.v (.int .i64))]⟩),
    (195, ⟨[.agg [.v .bool, .v (.sl (.int .i64))]], [.agg [.v .bool, .v (.sl (.int .i64))]]⟩),
    (196, ⟨[.c (.v (.sl (.int .i64))), .c (.v (.sl (.int .i64)))], [.c (.v (.sl (.int .i64)))]⟩),
    (197, ⟨[.c (.v (.int .i64))], [.c (.v (.sl (.int .i64)))]⟩),
    (198, ⟨[.c (.v (.sl (.int .i64))), .c (.v (.sl (.int .i64)))], [.c (.v (.sl (.int .i64)))]⟩),
    (199, ⟨[.c (.v (.sl (.int .i64))), .c (.v (.sl (.int .i64)))], [.c (.v (.int .i64))]⟩),
    (200, ⟨[.c (.v (.sl (.int .i64))), .c (.v (.sl (.int .i64)))], [.c (.v (.sl (.int .i64)))]⟩),
    (202, ⟨[.c (.v (.int .i64))], [.c (.v .str)]⟩),
    (203, ⟨[.c (.v (.int .i64)), .c (.v (.int .i64))], [.c (.v .str)]⟩),
    (204, ⟨[.c (.v (.sl (.int .i64))), .c (.v (.sl (.int .i64)))], [.c (.v (.sl (.int .i64)))]⟩),
    (205, ⟨[.c (.v (.int .i64))], [.c (.v (.sl (.int .i64)))]⟩),
    (206, ⟨[.c (.v (.sl (.int .i64))), .c (.v (.sl (.int .i64)))], [.c (.v (.int .i64))]⟩),
    (207, ⟨[.c (.v (.int .u64))], [.c (.v (.sl (.int .i64)))]⟩),
    (222, ⟨[.c (.v .bool), .c (.v (.sl (.int .i64))), .c (.v (.int .i64))], [.agg [.v .bool, .v (.sl (.int .i64)), .v (.int .i64)], .c (.v (.int .i64))]⟩),
    (223, ⟨[.c (.v .bool), .c (.v (.sl (.int .i64))), .c (.v (.sl (.int .i64))), .c (.v (.int .i64))], [.c (.v (.sl (.int .i64)))]⟩),
    (224, ⟨[.c (.v (.sl (.int .i64)))], [.c (.o (.int .i64) 3 true)]⟩),
    (225, ⟨[.c (.v (.sl (.int .i64))), .c (.v (.sl (.int .i64)))], [.c (.v (.sl (.int .i64))), .c (.v (.sl (.int .i64)))]⟩),
    (226, ⟨[.c (.v (.int .i64))], [.c (.v .bool)]⟩),
    (227, ⟨[.c (.v (.sl (.int .i64)))], [.c (.o (.int .i64) 3 true)]⟩),
    (228, ⟨[.c (.v (.sl (.int .i64))), .c (.v (.int .i64))], [.c (.v (.int .i64))]⟩),
    (236, ⟨[.c (.v (.int .i64)), .c (.v .bool), .c (.v .bool), .c (.v (.int .i64))], [.c (.v .bool)]⟩),
    (237, ⟨[.c (.v (.sl (.int .i64))), .c (.v (.sl (.int .i64)))], [.c (.v (.sl (.int .i64)))]⟩),
    (238, ⟨[.c (.v (.sl (.int .i64))), .c (.v (.sl (.int .i64)))], [.c (.v (.int .i64))]⟩),
    (239, ⟨[.c (.v (.sl (.int .i64))), .c (.v (.sl (.int .i64)))], [.c (.o (.int .i64) 3 true)]⟩),
    (57057, ⟨[.c (.v (.sl (.pair (.int .i64) (.pair .bool (.pair .bool (.pair (.sl (.int .i64)) (.pair (.int .i64) (.pair (.int .i64) (.pair (.int .i64) (.pair (.int .i64) (.pair .str .unit))))))))))), .clo 56 []], [.c (.v .bool)]⟩),
    (57105, ⟨[.c (.v (.sl (.pair (.int .i64) (.pair .bool (.pair .bool (.pair (.sl (.int .i64)) (.pair (.int .i64) (.pair (.int .i64) (.pair (.int .i64) (.pair (.int .i64) (.pair .str .unit))))))))))), .clo 56 []], [.c (.v (.int .i64))]⟩),
    (60058, ⟨[.c (.v (.sl (.int .i64))), .clo 59 [.v (.ref (.sl (.pair (.int .i64) (.pair .bool (.pair .bool (.pair (.sl (.int .i64)) (.pair (.int .i64) (.pair (.int .i64) (.pair (.int .i64) (.pair (.int .i64) (.pair .str .unit)))))))))))]], [.c (.v .bool)]⟩),
    (60106, ⟨[.c (.v (.sl (.int .i64))), .clo 59 [.v (.ref (.sl (.pair (.int .i64) (.pair .bool (.pair .bool (.pair (.sl (.int .i64)) (.pair (.int .i64) (.pair (.int .i64) (.pair (.int .i64) (.pair (.int .i64) (.pair .str .unit)))))))))))]], [.c (.v (.int .i64))]⟩),
    (156058, ⟨[.c (.v (.sl (.int .i64))), .clo 155 []], [.c (.v .bool)]⟩),
    (156106, ⟨[.c (.v (.sl (.int .i64))), .clo 155 []], [.c (.v (.int .i64))]⟩),
    (1018165, ⟨[.c (.v (.int .i64)), .c (.v (.int .i64)), .box [.v (.sl (.int .i64))], .box [.o (.int .i64) 3 true], .box [.v (.sl (.int .i64))]], []⟩)]
  cut := [(5, [(10, [(3, .c (.v (.sl (.pair (.int .i64) (.pair .bool (.pair .bool (.pair (.sl (.int .i64)) (.pair (.int .i64) (.pair (.int .i64) (.pair (.int .i64) (.pair (.int .i64) (.pair .str .unit)))))))))))), (4, .c (.v (.sl (.pair (.int .i64) (.pair .bool (.pair .bool (.pair (.sl (.int .i64)) (.pair (.int .i64) (.pair (.int .i64) (.pair (.int .i64) (.pair (.int .i64) (.pair .str .unit)))))))))))), (5, .c (.v (.sl (.int .i64)))), (6, .c (.v (.sl .bool))), (7, .c (.v (.int .i64))), (8, .c (.o (.pair (.int .i64) (.pair .bool (.pair .bool (.pair (.sl (.int .i64)) (.pair (.int .i64) (.pair (.int .i64) (.pair (.int .i64) (.pair (.int .i64) (.pair .str .unit))))))))) 31 true)), (9, .c (.o (.pair (.int .i64) (.pair .bool (.pair .bool (.pair (.sl (.int .i64)) (.pair (.int .i64) (.pair (.int .i64) (.pair (.int .i64) (.pair (.int .i64) (.pair .str .unit))))))))) 31 true)), (10, .c (.v (.int .i64)))])]),
    (19, [(7, [(6, .box [.v (.sl (.int .u8)), .v (.int .i64)]), (7, .c (.v (.sl (.pair (.int .i64) (.pair (.int .i64) (.pair (.int .i64) .unit)))))), (8, .c (.o (.pair (.int .i64) (.pair .bool (.pair .bool (.pair (.sl (.int .i64)) (.pair (.int .i64) (.pair (.int .i64) (.pair (.int .i64) (.pair (.int .i64) (.pair .str .unit))))))))) 31 true)), (9, .c (.v (.sl (.pair (.int .i64) (.pair .bool (.pair .bool (.pair (.sl (.int .i64)) (.pair (.int .i64) (.pair (.int .i64) (.pair (.int .i64) (.pair (.int .i64) (.pair .str .unit))))))))))))]), (9, [(6, .box [.v (.sl (.int .u8)), .v (.int .i64)]), (7, .c (.v (.sl (.pair (.int .i64) (.pair (.int .i64) (.pair (.int .i64) .unit)))))), (8, .c (.o (.pair (.int .i64) (.pair .bool (.pair .bool (.pair (.sl (.int .i64)) (.pair (.int .i64) (.pair (.int .i64) (.pair (.int .i64) (.pair (.int .i64) (.pair .str .unit))))))))) 31 true)), (9, .c (.v (.sl (.pair (.int .i64) (.pair .bool (.pair .bool (.pair (.sl (.int .i64)) (.pair (.int .i64) (.pair (.int .i64) (.pair (.int .i64) (.pair (.int .i64) (.pair .str .unit)))))))))))), (10, .c (.o (.int .i64) 3 true)), (11, .c (.v (.int .i64)))]), (20, [(8, .c (.o (.pair (.int .i64) (.pair .bool (.pair .bool (.pair (.sl (.int .i64)) (.pair (.int .i64) (.pair (.int .i64) (.pair (.int .i64) (.pair (.int .i64) (.pair .str .unit))))))))) 31 true)), (9, .c (.v (.sl (.pair (.int .i64) (.pair .bool (.pair .bool (.pair (.sl (.int .i64)) (.pair (.int .i64) (.pair (.int .i64) (.pair (.int .i64) (.pair (.int .i64) (.pair .str .unit)))))))))))), (10, .c (.o (.int .i64) 3 true)), (12, .c (.o .bool 4 true))])]),
    (22, [(4, [(0, .c (.v (.sl (.pair (.int .i64) (.pair .bool (.pair .bool (.pair (.sl (.int .i64)) (.pair (.int .i64) (.pair (.int .i64) (.pair (.int .i64) (.pair (.int .i64) (.pair .str .unit)))))))))))), (1, .c (.v (.sl .bool))), (17, .c (.v (.sl (.pair (.int .i64) (.pair .bool (.pair .bool (.pair (.sl (.int .i64)) (.pair (.int .i64) (.pair (.int .i64) (.pair (.int .i64) (.pair (.int .i64) (.pair .str .unit)))))))))))), (18, .c (.v (.int .i64))), (19, .c (.v (.int .i64)))])]),
    (33, [(17, [(1, .box [.v (.int .i64), .v .bool, .v .bool, .v (.sl (.int .i64)), .v (.int .i64), .v (.int .i64), .v (.int .i64), .v (.int .i64), .v .str]), (3, .box [.v (.int .i64), .v .bool, .v .bool, .v (.sl (.int .i64)), .v (.int .i64), .v (.int .i64), .v (.int .i64), .v (.int .i64), .v .str]), (4, .c (.v .bool)), (43, .c (.v (.int .i64))), (44, .c (.v (.int .i64)))]), (21, [(3, .box [.v (.int .i64), .v .bool, .v .bool, .v (.sl (.int .i64)), .v (.int .i64), .v (.int .i64), .v (.int .i64), .v (.int .i64), .v .str]), (4, .c (.v .bool))])]),
    (37, [(13, [(1, .c (.v .bool)), (5, .c (.o (.int .u8) 5 true))])]),
    (39, [(3, [(3, .c (.o (.int .u8) 5 true)), (9, .c (.v (.sl (.int .u8)))), (10, .c (.v (.int .i64))), (11, .c (.v (.int .i64)))])]),
    (49, [(3, [(0, .c (.v (.sl (.int .u8))))])]),
    (50, [(3, [(0, .box [.v (.sl (.int .u8)), .v (.int .i64)]), (3, .c (.o (.pair (.int .i64) (.pair (.int .i64) (.pair (.int .i64) .unit))) 119 true)), (4, .c (.v (.int .i64)))])]),
    (51, [(3, [(0, .box [.v (.sl (.int .u8)), .v (.int .i64)]), (1, .c (.v (.sl (.pair (.int .i64) (.pair (.int .i64) (.pair (.int .i64) .unit)))))), (5, .c (.o (.pair (.int .i64) (.pair .bool (.pair .bool (.pair (.sl (.int .i64)) (.pair (.int .i64) (.pair (.int .i64) (.pair (.int .i64) (.pair (.int .i64) (.pair .str .unit))))))))) 31 true)), (6, .c (.v (.int .i64)))])]),
    (53, [(2, [(0, .box [.v (.sl (.int .u8)), .v (.int .i64)]), (1, .c (.v (.int .i64))), (5, .c (.o .bool 4 true))])]),
    (55, [(15, [(0, .box [.v (.sl (.int .u8)), .v (.int .i64)]), (2, .box [.v (.int .i64), .v .bool, .v .bool, .v (.sl (.int .i64)), .v (.int .i64), .v (.int .i64), .v (.int .i64), .v (.int .i64), .v .str]), (3, .box [.v (.int .i64), .v .bool, .v .bool, .v (.sl (.int .i64)), .v (.int .i64), .v (.int .i64), .v (.int .i64), .v (.int .i64), .v .str])])]),
    (60, [(2, [(0, .c (.v (.sl (.pair (.int .i64) (.pair .bool (.pair .bool (.pair (.sl (.int .i64)) (.pair (.int .i64) (.pair (.int .i64) (.pair (.int .i64) (.pair (.int .i64) (.pair .str .unit)))))))))))), (1, .c (.v (.sl (.pair (.int .i64) (.pair .bool (.pair .bool (.pair (.sl (.int .i64)) (.pair (.int .i64) (.pair (.int .i64) (.pair (.int .i64) (.pair (.int .i64) (.pair .str .unit)))))))))))), (3, .c (.v (.sl .bool))), (12, .c (.v (.sl (.int .i64)))), (13, .c (.v (.int .i64))), (14, .c (.v (.int .i64)))])]),
    (61, [(2, [(0, .c (.v (.sl (.pair (.int .i64) (.pair .bool (.pair .bool (.pair (.sl (.int .i64)) (.pair (.int .i64) (.pair (.int .i64) (.pair (.int .i64) (.pair (.int .i64) (.pair .str .unit)))))))))))), (3, .c (.v (.int .i64)))])]),
    (62, [(2, [(0, .c (.v (.sl (.int .i64)))), (1, .c (.v (.sl .bool))), (2, .c (.v (.int .i64))), (7, .c (.v (.int .i64)))])]),
    (63, [(2, [(0, .c (.v (.sl (.pair (.int .i64) (.pair .bool (.pair .bool (.pair (.sl (.int .i64)) (.pair (.int .i64) (.pair (.int .i64) (.pair (.int .i64) (.pair (.int .i64) (.pair .str .unit)))))))))))), (1, .c (.v (.sl (.pair (.int .i64) (.pair .bool (.pair .bool (.pair (.sl (.int .i64)) (.pair (.int .i64) (.pair (.int .i64) (.pair (.int .i64) (.pair (.int .i64) (.pair .str .unit)))))))))))), (2, .c (.v (.sl (.int .i64)))), (3, .c (.v (.sl .bool))), (9, .c (.v (.int .i64)))])]),
    (64, [(3, [(1, .c (.v (.sl .bool))), (5, .c (.o (.int .u8) 5 true)), (8, .c (.v (.sl (.pair (.int .i64) (.pair .bool (.pair .bool (.pair (.sl (.int .i64)) (.pair (.int .i64) (.pair (.int .i64) (.pair (.int .i64) (.pair (.int .i64) (.pair .str .unit)))))))))))), (9, .c (.v (.int .i64))), (10, .c (.v (.int .i64)))])]),
    (82, [(2, [(0, .c (.v .str)), (3, .c (.v (.int .i64)))])]),
    (86, [(7, [(1, .box [.v .bool, .v (.sl (.int .i64)), .v (.int .i64)]), (4, .c (.o (.int .u8) 5 true)), (29, .c (.v (.sl (.int .u8)))), (30, .c (.v (.int .i64))), (31, .c (.v (.int .i64)))])]),
    (88, [(3, [(0, .c (.v .str)), (3, .c (.o (.int .u8) 5 true)), (4, .c (.v (.int .i64)))])]),
    (98, [(7, [(0, .box [.v (.sl (.int .u8)), .v (.int .i64)]), (2, .box [.v (.int .i64), .v (.int .i64), .v (.int .i64)]), (3, .c (.v (.int .i64))), (4, .c (.v (.int .i64))), (5, .c (.v (.int .i64)))])]),
    (102, [(9, [(0, .box [.v (.sl (.int .u8)), .v (.int .i64)]), (2, .box [.v .bool, .v (.sl (.int .i64)), .v (.int .i64)]), (3, .box [.v .bool, .v (.sl (.int .i64)), .v (.int .i64)])])]),
    (104, [(4, [(0, .box [.v (.sl (.int .u8)), .v (.int .i64)]), (2, .box [.v (.int .i64), .v (.int .i64)]), (3, .box [.v (.int .i64), .v (.int .i64)])]), (6, [(0, .box [.v (.sl (.int .u8)), .v (.int .i64)]), (2, .box [.v (.int .i64), .v (.int .i64)]), (3, .box [.v (.int .i64), .v (.int .i64)])])]),
    (120, [(3, [(3, .c (.v (.int .i64))), (6, .c (.v (.sl (.int .i64)))), (7, .c (.v (.int .i64))), (8, .c (.v (.int .i64)))])]),
    (123, [(4, [(1, .box [.v .bool, .v (.sl (.int .i64))]), (3, .c (.v (.int .i64)))])]),
    (128, [(4, [(1, .box [.v .bool, .v (.sl (.int .i64)), .v (.int .i64)]), (2, .box [.v .bool, .v (.sl (.int .i64)), .v (.int .i64)]), (3, .c (.v (.sl (.int .i64)))), (4, .c (.v (.int .i64)))])]),
    (139, [(1, [(0, .c (.v (.sl (.int .i64))))])]),
    (143, [(4, [(0, .c (.v (.sl (.int .i64)))), (1, .c (.v (.sl (.int .i64)))), (5, .c (.v (.int .i64)))])]),
    (147, [(4, [(0, .box [.v (.sl (.int .u8)), .v (.int .i64)]), (4, .box [.v .bool, .v (.sl (.int .i64))]), (5, .c (.v (.int .i64)))]), (7, [(0, .box [.v (.sl (.int .u8)), .v (.int .i64)]), (4, .box [.v .bool, .v (.sl (.int .i64))]), (5, .c (.v (.int .i64))), (6, .c (.v .str))]), (9, [(0, .box [.v (.sl (.int .u8)), .v (.int .i64)]), (4, .box [.v .bool, .v (.sl (.int .i64))]), (6, .c (.v .str))])]),
    (148, [(10, [(0, .box [.v (.sl (.int .u8)), .v (.int .i64)]), (2, .box [.v .bool, .v (.sl (.int .i64))]), (3, .box [.v .bool, .o (.int .i64) 3 true])]), (12, [(0, .box [.v (.sl (.int .u8)), .v (.int .i64)]), (2, .box [.v .bool, .v (.sl (.int .i64))]), (3, .box [.v .bool, .o (.int .i64) 3 true])])]),
    (150, [(7, [(1, .box [.v .bool, .v (.sl (.int .i64)), .v (.int .i64)]), (4, .c (.v .str)), (5, .c (.v (.int .i64))), (6, .c (.v (.int .i64)))])]),
    (152, [(3, [(0, .c (.v (.sl (.int .i64)))), (3, .c (.o (.int .i64) 3 true)), (4, .c (.v (.int .i64)))])]),
    (153, [(3, [(0, .c (.v (.int .i64))), (2, .box [.v .bool, .v (.sl (.int .i64))]), (3, .c (.o (.int .i64) 3 true)), (4, .c (.v (.int .i64)))]), (7, [(0, .c (.v (.int .i64))), (2, .box [.v .bool, .v (.sl (.int .i64))]), (3, .c (.o (.int .i64) 3 true)), (4, .c (.v (.int .i64))), (5, .c (.v (.int .i64)))])]),
    (154, [(3, [(0, .c (.v (.int .i64))), (1, .c (.v (.int .i64))), (7, .c (.v (.int .i64))), (8, .c (.v (.int .i64)))])]),
    (161, [(5, [(0, .c (.v (.sl (.int .i64)))), (3, .c (.v .str)), (4, .c (.v (.int .i64)))])]),
    (165, [(15, [(6, .box [.v (.sl (.int .i64))]), (7, .box [.v (.sl (.int .i64))])])]),
    (187, [(4, [(0, .box [.v (.sl (.int .u8)), .v (.int .i64)]), (1, .c (.v (.int .i64))), (5, .c (.v .str))])]),
    (188, [(2, [(0, .c (.v .str)), (1, .c (.v (.int .i64))), (5, .c (.v .str))])]),
    (190, [(2, [(0, .c (.v .str)), (3, .c (.o (.int .i64) 3 true))]), (6, [(0, .c (.v .str)), (3, .c (.o (.int .i64) 3 true)), (4, .c (.v (.int .i64)))]), (8, [(0, .c (.v .str)), (3, .c (.o (.int .i64) 3 true)), (4, .c (.v (.int .i64))), (5, .c (.v (.int .i64))), (6, .c (.v (.int .i64)))])]),
    (191, [(3, [(1, .box [.v .bool, .v (.sl (.int .i64)), .v (.int .i64)]), (2, .box [.v .bool, .v (.sl (.int .i64)), .v (.int .i64)]), (3, .c (.v (.sl (.int .i64)))), (4, .c (.v (.int .i64)))])]),
    (192, [(3, [(0, .c (.v .str)), (3, .c (.o (.int .u8) 5 true)), (4, .c (.v (.int .i64)))])]),
    (194, [(11, [])]),
    (196, [(3, [(1, .c (.v (.sl (.int .i64)))), (5, .c (.o (.int .i64) 3 true)), (19, .c (.v (.sl (.int .i64)))), (20, .c (.v (.int .i64))), (21, .c (.v (.int .i64)))]), (7, [(1, .c (.v (.sl (.int .i64)))), (5, .c (.o (.int .i64) 3 true)), (6, .c (.v (.int .i64))), (7, .c (.v (.int .i64))), (8, .c (.v (.int .i64))), (19, .c (.v (.sl (.int .i64)))), (20, .c (.v (.int .i64))), (21, .c (.v (.int .i64))), (26, .c (.v (.sl (.int .i64)))), (27, .c (.v (.int .i64))), (28, .c (.v (.int .i64)))])]),
    (197, [(3, [(3, .c (.v (.sl (.int .i64)))), (5, .c (.v (.int .i64))), (6, .c (.v (.int .i64)))])]),
    (198, [(4, [(5, .c (.o (.int .i64) 3 true)), (19, .c (.v (.sl (.int .i64)))), (20, .c (.v (.int .i64))), (21, .c (.v (.int .i64)))]), (9, [(5, .c (.o (.int .i64) 3 true)), (36, .c (.v (.int .i64))), (37, .c (.v (.int .i64)))])]),
    (199, [(4, [(0, .c (.v (.sl (.int .i64)))), (1, .c (.v (.sl (.int .i64)))), (5, .c (.v (.int .i64)))])]),
    (200, [(3, [(5, .c (.o (.int .i64) 3 true)), (11, .c (.v (.sl (.int .i64)))), (12, .c (.v (.int .i64))), (13, .c (.v (.int .i64)))]), (8, [(5, .c (.o (.int .i64) 3 true)), (27, .c (.v (.int .i64))), (28, .c (.v (.int .i64)))]), (13, [(5, .c (.o (.int .i64) 3 true)), (27, .c (.v (.int .i64))), (28, .c (.v (.int .i64)))])]),
    (203, [(2, [(1, .c (.v (.int .i64))), (5, .c (.v .str))])]),
    (204, [(3, [(0, .c (.v (.sl (.int .i64)))), (1, .c (.v (.sl (.int .i64)))), (5, .c (.o (.int .i64) 3 true)), (6, .c (.v (.int .i64)))]), (7, [(0, .c (.v (.sl (.int .i64)))), (1, .c (.v (.sl (.int .i64)))), (5, .c (.o (.int .i64) 3 true)), (6, .c (.v (.int .i64))), (7, .c (.v (.int .i64))), (8, .c (.v (.int .i64)))])]),
    (205, [(2, [(0, .c (.v (.int .i64))), (3, .c (.o (.int .i64) 3 true))]), (6, [(0, .c (.v (.int .i64))), (3, .c (.o (.int .i64) 3 true)), (4, .c (.v (.int .i64)))])]),
    (206, [(6, [(0, .c (.v (.sl (.int .i64)))), (1, .c (.v (.sl (.int .i64)))), (5, .c (.v (.int .i64)))])]),
    (207, [(2, [(0, .c (.v (.int .u64))), (3, .c (.o (.int .i64) 3 true))])]),
    (224, [(2, [(0, .c (.v (.sl (.int .i64)))), (3, .c (.v (.int .i64)))])]),
    (225, [(4, [(0, .c (.v (.sl (.int .i64)))), (1, .c (.v (.sl (.int .i64)))), (6, .c (.o (.int .i64) 3 true)), (7, .c (.o (.int .i64) 3 true)), (8, .c (.v (.int .i64)))])]),
    (237, [(4, [(0, .c (.v (.sl (.int .i64)))), (1, .c (.v (.sl (.int .i64)))), (5, .c (.o (.int .i64) 3 true)), (6, .c (.v (.int .i64))), (7, .c (.v (.int .i64)))])]),
    (238, [(3, [(0, .c (.v (.sl (.int .i64)))), (1, .c (.v (.sl (.int .i64)))), (5, .c (.v (.int .i64))), (6, .c (.v (.int .i64)))])]),
    (239, [(4, [(0, .c (.v (.sl (.int .i64)))), (1, .c (.v (.sl (.int .i64)))), (5, .c (.o (.int .i64) 3 true)), (6, .c (.v (.int .i64))), (7, .c (.v (.int .i64)))]), (11, [(0, .c (.v (.sl (.int .i64)))), (1, .c (.v (.sl (.int .i64)))), (5, .c (.o (.int .i64) 3 true)), (6, .c (.v (.int .i64))), (7, .c (.v (.int .i64))), (8, .c (.v (.int .i64)))])]),
    (57105, [(2, [(0, .c (.v (.sl (.pair (.int .i64) (.pair .bool (.pair .bool (.pair (.sl (.int .i64)) (.pair (.int .i64) (.pair (.int .i64) (.pair (.int .i64) (.pair (.int .i64) (.pair .str .unit)))))))))))), (1, .clo 56 []), (7, .c (.v (.int .i64))), (8, .c (.v (.int .i64)))])]),
    (60106, [(2, [(0, .c (.v (.sl (.int .i64)))), (1, .clo 59 [.v (.ref (.sl (.pair (.int .i64) (.pair .bool (.pair .bool (.pair (.sl (.int .i64)) (.pair (.int .i64) (.pair (.int .i64) (.pair (.int .i64) (.pair (.int .i64) (.pair .str .unit)))))))))))]), (7, .c (.v (.int .i64))), (8, .c (.v (.int .i64)))])]),
    (156106, [(2, [(0, .c (.v (.sl (.int .i64)))), (1, .clo 155 []), (7, .c (.v (.int .i64))), (8, .c (.v (.int .i64)))])]),
    (1018165, [(8, [(3, .box [.v (.sl (.int .i64))]), (6, .box [.o (.int .i64) 3 true]), (7, .box [.v (.sl (.int .i64))]), (8, .c (.v (.int .i64))), (10, .c (.v (.int .i64))), (11, .c (.v (.int .i64)))])])]
  eqs := [(29, [.int .i64, .int .i64])]
  rt := [(1018165, [18, 19, 3, 6, 7])]
  rng := [(165, [(18, 1018165)])]
  back := [(166, 208, 111)]
theorem tabs_ok : tabs.ok Tryz.prog = true := by kernel_rfl
noncomputable def compareR (x : ByteArray × ByteArray × Unit) : Option ((Int × Unit) × (Unit × Unit × Unit)) := some ((Lib.compareBytes x.1.data.toList x.2.1.data.toList, ()), ((), (), ()))
noncomputable def trimR (x : ByteArray × ByteArray × Unit) : Option ((ByteArray × Unit) × (Unit × Unit × Unit)) := match x.2.1.data.toList with
  | [c] => bif Nat.blt c.toNat 128 && Nat.ble x.1.size 9223372036854775807 then some ((⟨(Lib.trimRightB x.1.data.toList c).toArray⟩, ()), ((), (), ())) else none
  | _ => none
noncomputable def extR : (f : Nat) → Option ((specOf tabs.spec f).In → Option (specOf tabs.spec f).Out) := fun f => match f with
  | 129 => some textR
  | 130 => some trimR
  | 121 => some compareR
  | _ => none
/-- the variable that holds strconv's powers of ten, and its cells -/
def powG : Nat := 3
def powCells : Array Value := (Lib.pow10Tab.map fun z => Value.int .u64 z).toArray
def objsR : Nat → Option (Array Value → Prop) := fun g => if g = powG then some (fun cs => cs = powCells) else none
noncomputable def cx : Go.Rf.Cx := tabs.cx Tryz.prog extR (fun _ => none) objsR
theorem good : Go.Rf.Good cx := Go.Rf.Tabs.good tabs_ok backs_ok
end Go.Proofs.YtiojgdjpigcgaaaGreatDoor.R
end

section
/-! Rf: the functions, and what each answers. -/
set_option autoImplicit false
set_option linter.unusedVariables false
namespace Go.Proofs.YtiojgdjpigcgaaaGreatDoor.R
open Go.Rf
/-! loop.example/jetton/laws.FnKeyRows -/
noncomputable def F5 (k : Nat) (a0 : List Int) : Option ((Bool × Unit) × (Unit × Unit)) := callF cx k 5 (a0, ())
noncomputable def F5c10 (k : Nat) (x3 : List (Int × Bool × Bool × (List Int) × Int × Int × Int × Int × ByteArray × Unit)) (x4 : List (Int × Bool × Bool × (List Int) × Int × Int × Int × Int × ByteArray × Unit)) (x5 : List Int) (x6 : List Bool) (x7 : Int) (x8 : List (Int × Bool × Bool × (List Int) × Int × Int × Int × Int × ByteArray × Unit)) (x9 : List (Int × Bool × Bool × (List Int) × Int × Int × Int × Int × ByteArray × Unit)) (x10 : Int) : Option ((Bool × Unit) × (Unit × Unit)) := cutF cx 5 10 Tryz.f5 k (x3, x4, x5, x6, x7, x8, x9, x10, ())
/-! loop.example/jetton/laws.FnExactKeyPut -/
noncomputable def F6 (k : Nat) (a0_0 : Int) (a0_1 : Bool) (a0_2 : Bool) (a0_3 : List Int) (a0_4 : Int) (a0_5 : Int) (a0_6 : Int) (a0_7 : Int) (a0_8 : ByteArray) (a1 : Bool) : Option ((Bool × Unit) × ((Unit × Unit × Unit × Unit × Unit × Unit × Unit × Unit × Unit × Unit) × Unit × Unit)) := callF cx k 6 ((a0_0, a0_1, a0_2, a0_3, a0_4, a0_5, a0_6, a0_7, a0_8, ()), a1, ())
/-! loop.example/jetton/laws.jtSign -/
noncomputable def F12 (k : Nat) (a0 : ByteArray) (a1 : ByteArray) : Option ((Int × Unit) × (Unit × Unit × Unit)) := callF cx k 12 (a0, a1, ())
/-! loop.example/jetton/impl.KeyPut -/
noncomputable def F13 (k : Nat) (a0_0 : Int) (a0_1 : Bool) (a0_2 : Bool) (a0_3 : List Int) (a0_4 : Int) (a0_5 : Int) (a0_6 : Int) (a0_7 : Int) (a0_8 : ByteArray) (a1 : Bool) : Option ((ByteArray × Unit) × ((Unit × Unit × Unit × Unit × Unit × Unit × Unit × Unit × Unit × Unit) × Unit × Unit)) := callF cx k 13 ((a0_0, a0_1, a0_2, a0_3, a0_4, a0_5, a0_6, a0_7, a0_8, ()), a1, ())
/-! loop.example/jetton/laws.eqValue -/
noncomputable def F16 (k : Nat) (a0_0 : Int) (a0_1 : Bool) (a0_2 : Bool) (a0_3 : List Int) (a0_4 : Int) (a0_5 : Int) (a0_6 : Int) (a0_7 : Int) (a0_8 : ByteArray) (a1_0 : Int) (a1_1 : Bool) (a1_2 : Bool) (a1_3 : List Int) (a1_4 : Int) (a1_5 : Int) (a1_6 : Int) (a1_7 : Int) (a1_8 : ByteArray) : Option ((Bool × Unit) × ((Unit × Unit × Unit × Unit × Unit × Unit × Unit × Unit × Unit × Unit) × (Unit × Unit × Unit × Unit × Unit × Unit × Unit × Unit × Unit × Unit) × Unit)) := callF cx k 16 ((a0_0, a0_1, a0_2, a0_3, a0_4, a0_5, a0_6, a0_7, a0_8, ()), (a1_0, a1_1, a1_2, a1_3, a1_4, a1_5, a1_6, a1_7, a1_8, ()), ())
/-! loop.example/jetton/spec.DrawRowOrder -/
noncomputable def F19 (k : Nat) (a0 : List Int) : Option (((List (Int × Bool × Bool × (List Int) × Int × Int × Int × Int × ByteArray × Unit)) × (List (Int × Bool × Bool × (List Int) × Int × Int × Int × Int × ByteArray × Unit)) × (List Int) × (List Bool) × Unit) × (Unit × Unit)) := callF cx k 19 (a0, ())
noncomputable def F19c7 (k : Nat) (x6_0 : List Int) (x6_1 : Int) (x7 : List (Int × Int × Int × Unit)) (x8 : List (Int × Bool × Bool × (List Int) × Int × Int × Int × Int × ByteArray × Unit)) (x9 : List (Int × Bool × Bool × (List Int) × Int × Int × Int × Int × ByteArray × Unit)) : Option (((List (Int × Bool × Bool × (List Int) × Int × Int × Int × Int × ByteArray × Unit)) × (List (Int × Bool × Bool × (List Int) × Int × Int × Int × Int × ByteArray × Unit)) × (List Int) × (List Bool) × Unit) × (Unit × Unit)) := cutF cx 19 7 Tryz.f19 k ((x6_0, x6_1, ()), x7, x8, x9, ())
noncomputable def F19c9 (k : Nat) (x6_0 : List Int) (x6_1 : Int) (x7 : List (Int × Int × Int × Unit)) (x8 : List (Int × Bool × Bool × (List Int) × Int × Int × Int × Int × ByteArray × Unit)) (x9 : List (Int × Bool × Bool × (List Int) × Int × Int × Int × Int × ByteArray × Unit)) (x10 : List Int) (x11 : Int) : Option (((List (Int × Bool × Bool × (List Int) × Int × Int × Int × Int × ByteArray × Unit)) × (List (Int × Bool × Bool × (List Int) × Int × Int × Int × Int × ByteArray × Unit)) × (List Int) × (List Bool) × Unit) × (Unit × Unit)) := cutF cx 19 9 Tryz.f19 k ((x6_0, x6_1, ()), x7, x8, x9, x10, x11, ())
noncomputable def F19c20 (k : Nat) (x8 : List (Int × Bool × Bool × (List Int) × Int × Int × Int × Int × ByteArray × Unit)) (x9 : List (Int × Bool × Bool × (List Int) × Int × Int × Int × Int × ByteArray × Unit)) (x10 : List Int) (x12 : List Bool) : Option (((List (Int × Bool × Bool × (List Int) × Int × Int × Int × Int × ByteArray × Unit)) × (List (Int × Bool × Bool × (List Int) × Int × Int × Int × Int × ByteArray × Unit)) × (List Int) × (List Bool) × Unit) × (Unit × Unit)) := cutF cx 19 20 Tryz.f19 k (x8, x9, x10, x12, ())
/-! loop.example/jetton/impl.RowOrder -/
noncomputable def F20 (k : Nat) (a0 : List (Int × Bool × Bool × (List Int) × Int × Int × Int × Int × ByteArray × Unit)) (a1 : List (Int × Bool × Bool × (List Int) × Int × Int × Int × Int × ByteArray × Unit)) (a2 : List Int) (a3 : List Bool) : Option ((Int × Unit) × (Unit × Unit × Unit × Unit × Unit)) := callF cx k 20 (a0, a1, a2, a3, ())
/-! loop.example/jetton/spec.RowOrder -/
noncomputable def F21 (k : Nat) (a0 : List (Int × Bool × Bool × (List Int) × Int × Int × Int × Int × ByteArray × Unit)) (a1 : List (Int × Bool × Bool × (List Int) × Int × Int × Int × Int × ByteArray × Unit)) (a2 : List Int) (a3 : List Bool) : Option ((Int × Unit) × (Unit × Unit × Unit × Unit × Unit)) := callF cx k 21 (a0, a1, a2, a3, ())
/-! loop.example/jetton/impl.KeyAll -/
noncomputable def F22 (k : Nat) (a0 : List (Int × Bool × Bool × (List Int) × Int × Int × Int × Int × ByteArray × Unit)) (a1 : List Bool) : Option ((ByteArray × Unit) × (Unit × Unit × Unit)) := callF cx k 22 (a0, a1, ())
noncomputable def F22c4 (k : Nat) (x0 : List (Int × Bool × Bool × (List Int) × Int × Int × Int × Int × ByteArray × Unit)) (x1 : List Bool) (x17 : List (Int × Bool × Bool × (List Int) × Int × Int × Int × Int × ByteArray × Unit)) (x18 : Int) (x19 : Int) : Option ((ByteArray × Unit) × (Unit × Unit × Unit)) := cutF cx 22 4 Tryz.f22 k (x0, x1, x17, x18, x19, ())
/-! loop.example/jetton/laws.szValue -/
noncomputable def F23 (k : Nat) (a0_0 : Int) (a0_1 : Bool) (a0_2 : Bool) (a0_3 : List Int) (a0_4 : Int) (a0_5 : Int) (a0_6 : Int) (a0_7 : Int) (a0_8 : ByteArray) (a1 : Int) : Option ((Int × Unit) × ((Unit × Unit × Unit × Unit × Unit × Unit × Unit × Unit × Unit × Unit) × Unit × Unit)) := callF cx k 23 ((a0_0, a0_1, a0_2, a0_3, a0_4, a0_5, a0_6, a0_7, a0_8, ()), a1, ())
/-! loop.example/jetton/spec.KeyPut -/
noncomputable def F24 (k : Nat) (a0_0 : Int) (a0_1 : Bool) (a0_2 : Bool) (a0_3 : List Int) (a0_4 : Int) (a0_5 : Int) (a0_6 : Int) (a0_7 : Int) (a0_8 : ByteArray) (a1 : Bool) : Option ((ByteArray × Unit) × ((Unit × Unit × Unit × Unit × Unit × Unit × Unit × Unit × Unit × Unit) × Unit × Unit)) := callF cx k 24 ((a0_0, a0_1, a0_2, a0_3, a0_4, a0_5, a0_6, a0_7, a0_8, ()), a1, ())
/-! loop.example/jetton/laws.toValue -/
noncomputable def F25 (k : Nat) (a0_0 : Int) (a0_1 : Bool) (a0_2 : Bool) (a0_3 : List Int) (a0_4 : Int) (a0_5 : Int) (a0_6 : Int) (a0_7 : Int) (a0_8 : ByteArray) : Option (((Int × Bool × Bool × (List Int) × Int × Int × Int × Int × ByteArray × Unit) × Unit) × ((Unit × Unit × Unit × Unit × Unit × Unit × Unit × Unit × Unit × Unit) × Unit)) := callF cx k 25 ((a0_0, a0_1, a0_2, a0_3, a0_4, a0_5, a0_6, a0_7, a0_8, ()), ())
/-! loop.example/jetton/impl.ValueOk -/
noncomputable def F33 (k : Nat) (a0_0 : Int) (a0_1 : Bool) (a0_2 : Bool) (a0_3 : List Int) (a0_4 : Int) (a0_5 : Int) (a0_6 : Int) (a0_7 : Int) (a0_8 : ByteArray) : Option ((Bool × Unit) × ((Unit × Unit × Unit × Unit × Unit × Unit × Unit × Unit × Unit × Unit) × Unit)) := callF cx k 33 ((a0_0, a0_1, a0_2, a0_3, a0_4, a0_5, a0_6, a0_7, a0_8, ()), ())
noncomputable def F33c21 (k : Nat) (x3_0 : Int) (x3_1 : Bool) (x3_2 : Bool) (x3_3 : List Int) (x3_4 : Int) (x3_5 : Int) (x3_6 : Int) (x3_7 : Int) (x3_8 : ByteArray) (x4 : Bool) : Option ((Bool × Unit) × ((Unit × Unit × Unit × Unit × Unit × Unit × Unit × Unit × Unit × Unit) × Unit)) := cutF cx 33 21 Tryz.f33 k ((x3_0, x3_1, x3_2, x3_3, x3_4, x3_5, x3_6, x3_7, x3_8, ()), x4, ())
noncomputable def F33c17 (k : Nat) (x1_0 : Int) (x1_1 : Bool) (x1_2 : Bool) (x1_3 : List Int) (x1_4 : Int) (x1_5 : Int) (x1_6 : Int) (x1_7 : Int) (x1_8 : ByteArray) (x3_0 : Int) (x3_1 : Bool) (x3_2 : Bool) (x3_3 : List Int) (x3_4 : Int) (x3_5 : Int) (x3_6 : Int) (x3_7 : Int) (x3_8 : ByteArray) (x4 : Bool) (x43 : Int) (x44 : Int) : Option ((Bool × Unit) × ((Unit × Unit × Unit × Unit × Unit × Unit × Unit × Unit × Unit × Unit) × Unit)) := cutF cx 33 17 Tryz.f33 k ((x1_0, x1_1, x1_2, x1_3, x1_4, x1_5, x1_6, x1_7, x1_8, ()), (x3_0, x3_1, x3_2, x3_3, x3_4, x3_5, x3_6, x3_7, x3_8, ()), x4, x43, x44, ())
/-! (loop.example/jetton/impl.Value).order -/
noncomputable def F34 (k : Nat) (a0_0 : Int) (a0_1 : Bool) (a0_2 : Bool) (a0_3 : List Int) (a0_4 : Int) (a0_5 : Int) (a0_6 : Int) (a0_7 : Int) (a0_8 : ByteArray) (a1_0 : Int) (a1_1 : Bool) (a1_2 : Bool) (a1_3 : List Int) (a1_4 : Int) (a1_5 : Int) (a1_6 : Int) (a1_7 : Int) (a1_8 : ByteArray) : Option ((Int × Unit) × ((Unit × Unit × Unit × Unit × Unit × Unit × Unit × Unit × Unit × Unit) × (Unit × Unit × Unit × Unit × Unit × Unit × Unit × Unit × Unit × Unit) × Unit)) := callF cx k 34 ((a0_0, a0_1, a0_2, a0_3, a0_4, a0_5, a0_6, a0_7, a0_8, ()), (a1_0, a1_1, a1_2, a1_3, a1_4, a1_5, a1_6, a1_7, a1_8, ()), ())
/-! loop.example/jetton/spec.l4Ok -/
noncomputable def F35 (k : Nat) (a0_0 : Int) (a0_1 : Bool) (a0_2 : Bool) (a0_3 : List Int) (a0_4 : Int) (a0_5 : Int) (a0_6 : Int) (a0_7 : Int) (a0_8 : ByteArray) : Option ((Bool × Unit) × ((Unit × Unit × Unit × Unit × Unit × Unit × Unit × Unit × Unit × Unit) × Unit)) := callF cx k 35 ((a0_0, a0_1, a0_2, a0_3, a0_4, a0_5, a0_6, a0_7, a0_8, ()), ())
/-! loop.example/jetton/spec.l4Order -/
noncomputable def F36 (k : Nat) (a0_0 : Int) (a0_1 : Bool) (a0_2 : Bool) (a0_3 : List Int) (a0_4 : Int) (a0_5 : Int) (a0_6 : Int) (a0_7 : Int) (a0_8 : ByteArray) (a1_0 : Int) (a1_1 : Bool) (a1_2 : Bool) (a1_3 : List Int) (a1_4 : Int) (a1_5 : Int) (a1_6 : Int) (a1_7 : Int) (a1_8 : ByteArray) : Option ((Int × Unit) × ((Unit × Unit × Unit × Unit × Unit × Unit × Unit × Unit × Unit × Unit) × (Unit × Unit × Unit × Unit × Unit × Unit × Unit × Unit × Unit × Unit) × Unit)) := callF cx k 36 ((a0_0, a0_1, a0_2, a0_3, a0_4, a0_5, a0_6, a0_7, a0_8, ()), (a1_0, a1_1, a1_2, a1_3, a1_4, a1_5, a1_6, a1_7, a1_8, ()), ())
/-! (loop.example/jetton/impl.Value).key -/
noncomputable def F37 (k : Nat) (a0_0 : Int) (a0_1 : Bool) (a0_2 : Bool) (a0_3 : List Int) (a0_4 : Int) (a0_5 : Int) (a0_6 : Int) (a0_7 : Int) (a0_8 : ByteArray) (a1 : Bool) : Option (((List Int) × Unit) × ((Unit × Unit × Unit × Unit × Unit × Unit × Unit × Unit × Unit × Unit) × Unit × Unit)) := callF cx k 37 ((a0_0, a0_1, a0_2, a0_3, a0_4, a0_5, a0_6, a0_7, a0_8, ()), a1, ())
noncomputable def F37c13 (k : Nat) (x1 : Bool) (x5 : List Int) : Option (((List Int) × Unit) × ((Unit × Unit × Unit × Unit × Unit × Unit × Unit × Unit × Unit × Unit) × Unit × Unit)) := cutF cx 37 13 Tryz.f37 k (x1, x5, ())
/-! loop.example/jetton/impl.turned -/
noncomputable def F39 (k : Nat) (a0 : List Int) : Option (((List Int) × Unit) × (Unit × Unit)) := callF cx k 39 (a0, ())
noncomputable def F39c3 (k : Nat) (x3 : List Int) (x9 : List Int) (x10 : Int) (x11 : Int) : Option (((List Int) × Unit) × (Unit × Unit)) := cutF cx 39 3 Tryz.f39 k (x3, x9, x10, x11, ())
/-! loop.example/jetton/impl.in -/
noncomputable def F40 (k : Nat) (a0 : Int) (a1 : Int) (a2 : Int) : Option ((Bool × Unit) × (Unit × Unit × Unit × Unit)) := callF cx k 40 (a0, a1, a2, ())
/-! loop.example/jetton/laws.eqDec -/
noncomputable def F45 (k : Nat) (a0_0 : Bool) (a0_1 : List Int) (a0_2 : Int) (a1_0 : Bool) (a1_1 : List Int) (a1_2 : Int) : Option ((Bool × Unit) × ((Unit × Unit × Unit × Unit) × (Unit × Unit × Unit × Unit) × Unit)) := callF cx k 45 ((a0_0, a0_1, a0_2, ()), (a1_0, a1_1, a1_2, ()), ())
/-! loop.example/jetton/laws.eqSpan -/
noncomputable def F46 (k : Nat) (a0_0 : Int) (a0_1 : Int) (a1_0 : Int) (a1_1 : Int) : Option ((Bool × Unit) × ((Unit × Unit × Unit) × (Unit × Unit × Unit) × Unit)) := callF cx k 46 ((a0_0, a0_1, ()), (a1_0, a1_1, ()), ())
/-! loop.example/jetton/spec.l1Open -/
noncomputable def F49 (k : Nat) (a0 : List Int) : Option ((((List Int) × Int × Unit) × Unit) × (Unit × Unit)) := callF cx k 49 (a0, ())
noncomputable def F49c3 (k : Nat) (x0 : List Int) : Option ((((List Int) × Int × Unit) × Unit) × (Unit × Unit)) := cutF cx 49 3 Tryz.f49 k (x0, ())
/-! loop.example/jetton/spec.l14Types -/
noncomputable def F50 (k : Nat) (a0_0 : List Int) (a0_1 : Int) : Option (((List (Int × Int × Int × Unit)) × Unit) × (((List Int) × Int × Unit) × Unit)) := callF cx k 50 ((a0_0, a0_1, ()), ())
noncomputable def F50c3 (k : Nat) (x0_0 : List Int) (x0_1 : Int) (x3 : List (Int × Int × Int × Unit)) (x4 : Int) : Option (((List (Int × Int × Int × Unit)) × Unit) × (((List Int) × Int × Unit) × Unit)) := cutF cx 50 3 Tryz.f50 k ((x0_0, x0_1, ()), x3, x4, ())
/-! loop.example/jetton/spec.l14Row -/
noncomputable def F51 (k : Nat) (a0_0 : List Int) (a0_1 : Int) (a1 : List (Int × Int × Int × Unit)) : Option (((List (Int × Bool × Bool × (List Int) × Int × Int × Int × Int × ByteArray × Unit)) × Unit) × (((List Int) × Int × Unit) × Unit × Unit)) := callF cx k 51 ((a0_0, a0_1, ()), a1, ())
noncomputable def F51c3 (k : Nat) (x0_0 : List Int) (x0_1 : Int) (x1 : List (Int × Int × Int × Unit)) (x5 : List (Int × Bool × Bool × (List Int) × Int × Int × Int × Int × ByteArray × Unit)) (x6 : Int) : Option (((List (Int × Bool × Bool × (List Int) × Int × Int × Int × Int × ByteArray × Unit)) × Unit) × (((List Int) × Int × Unit) × Unit × Unit)) := cutF cx 51 3 Tryz.f51 k ((x0_0, x0_1, ()), x1, x5, x6, ())
/-! (*loop.example/jetton/spec.l1Rd).pick -/
noncomputable def F52 (k : Nat) (a0_0 : List Int) (a0_1 : Int) (a1 : Int) : Option ((Int × Unit) × (((List Int) × Int × Unit) × Unit × Unit)) := callF cx k 52 ((a0_0, a0_1, ()), a1, ())
/-! loop.example/jetton/spec.l14Downs -/
noncomputable def F53 (k : Nat) (a0_0 : List Int) (a0_1 : Int) (a1 : Int) : Option (((List Bool) × Unit) × (((List Int) × Int × Unit) × Unit × Unit)) := callF cx k 53 ((a0_0, a0_1, ()), a1, ())
noncomputable def F53c2 (k : Nat) (x0_0 : List Int) (x0_1 : Int) (x1 : Int) (x5 : List Bool) : Option (((List Bool) × Unit) × (((List Int) × Int × Unit) × Unit × Unit)) := cutF cx 53 2 Tryz.f53 k ((x0_0, x0_1, ()), x1, x5, ())
/-! (*loop.example/jetton/spec.l1Rd).one -/
noncomputable def F54 (k : Nat) (a0_0 : List Int) (a0_1 : Int) (a1 : List Int) : Option ((Int × Unit) × (((List Int) × Int × Unit) × Unit × Unit)) := callF cx k 54 ((a0_0, a0_1, ()), a1, ())
/-! loop.example/jetton/spec.l14AnyValue -/
noncomputable def F55 (k : Nat) (a0_0 : List Int) (a0_1 : Int) : Option (((Int × Bool × Bool × (List Int) × Int × Int × Int × Int × ByteArray × Unit) × Unit) × (((List Int) × Int × Unit) × Unit)) := callF cx k 55 ((a0_0, a0_1, ()), ())
noncomputable def F55c15 (k : Nat) (x0_0 : List Int) (x0_1 : Int) (x2_0 : Int) (x2_1 : Bool) (x2_2 : Bool) (x2_3 : List Int) (x2_4 : Int) (x2_5 : Int) (x2_6 : Int) (x2_7 : Int) (x2_8 : ByteArray) (x3_0 : Int) (x3_1 : Bool) (x3_2 : Bool) (x3_3 : List Int) (x3_4 : Int) (x3_5 : Int) (x3_6 : Int) (x3_7 : Int) (x3_8 : ByteArray) : Option (((Int × Bool × Bool × (List Int) × Int × Int × Int × Int × ByteArray × Unit) × Unit) × (((List Int) × Int × Unit) × Unit)) := cutF cx 55 15 Tryz.f55 k ((x0_0, x0_1, ()), (x2_0, x2_1, x2_2, x2_3, x2_4, x2_5, x2_6, x2_7, x2_8, ()), (x3_0, x3_1, x3_2, x3_3, x3_4, x3_5, x3_6, x3_7, x3_8, ()), ())
/-! loop.example/jetton/impl.RowOrder$1 -/
noncomputable def F56 (k : Nat) (a0_0 : Int) (a0_1 : Bool) (a0_2 : Bool) (a0_3 : List Int) (a0_4 : Int) (a0_5 : Int) (a0_6 : Int) (a0_7 : Int) (a0_8 : ByteArray) : Option ((Bool × Unit) × ((Unit × Unit × Unit × Unit × Unit × Unit × Unit × Unit × Unit × Unit) × Unit)) := callF cx k 56 ((a0_0, a0_1, a0_2, a0_3, a0_4, a0_5, a0_6, a0_7, a0_8, ()), ())
/-! loop.example/jetton/impl.RowOrder$2 -/
noncomputable def F59 (k : Nat) (a0 : Int) (a1 : List (Int × Bool × Bool × (List Int) × Int × Int × Int × Int × ByteArray × Unit)) : Option ((Bool × Unit) × (Unit × Unit × Unit)) := callF cx k 59 (a0, a1, ())
/-! loop.example/jetton/impl.rowOrder -/
noncomputable def F60 (k : Nat) (a0 : List (Int × Bool × Bool × (List Int) × Int × Int × Int × Int × ByteArray × Unit)) (a1 : List (Int × Bool × Bool × (List Int) × Int × Int × Int × Int × ByteArray × Unit)) (a2 : List Int) (a3 : List Bool) : Option ((Int × Unit) × (Unit × Unit × Unit × Unit × Unit)) := callF cx k 60 (a0, a1, a2, a3, ())
noncomputable def F60c2 (k : Nat) (x0 : List (Int × Bool × Bool × (List Int) × Int × Int × Int × Int × ByteArray × Unit)) (x1 : List (Int × Bool × Bool × (List Int) × Int × Int × Int × Int × ByteArray × Unit)) (x3 : List Bool) (x12 : List Int) (x13 : Int) (x14 : Int) : Option ((Int × Unit) × (Unit × Unit × Unit × Unit × Unit)) := cutF cx 60 2 Tryz.f60 k (x0, x1, x3, x12, x13, x14, ())
/-! loop.example/jetton/spec.l5RowOk -/
noncomputable def F61 (k : Nat) (a0 : List (Int × Bool × Bool × (List Int) × Int × Int × Int × Int × ByteArray × Unit)) : Option ((Bool × Unit) × (Unit × Unit)) := callF cx k 61 (a0, ())
noncomputable def F61c2 (k : Nat) (x0 : List (Int × Bool × Bool × (List Int) × Int × Int × Int × Int × ByteArray × Unit)) (x3 : Int) : Option ((Bool × Unit) × (Unit × Unit)) := cutF cx 61 2 Tryz.f61 k (x0, x3, ())
/-! loop.example/jetton/spec.l6ColsOk -/
noncomputable def F62 (k : Nat) (a0 : List Int) (a1 : List Bool) (a2 : Int) : Option ((Bool × Unit) × (Unit × Unit × Unit × Unit)) := callF cx k 62 (a0, a1, a2, ())
noncomputable def F62c2 (k : Nat) (x0 : List Int) (x1 : List Bool) (x2 : Int) (x7 : Int) : Option ((Bool × Unit) × (Unit × Unit × Unit × Unit)) := cutF cx 62 2 Tryz.f62 k (x0, x1, x2, x7, ())
/-! loop.example/jetton/spec.l6Order -/
noncomputable def F63 (k : Nat) (a0 : List (Int × Bool × Bool × (List Int) × Int × Int × Int × Int × ByteArray × Unit)) (a1 : List (Int × Bool × Bool × (List Int) × Int × Int × Int × Int × ByteArray × Unit)) (a2 : List Int) (a3 : List Bool) : Option ((Int × Unit) × (Unit × Unit × Unit × Unit × Unit)) := callF cx k 63 (a0, a1, a2, a3, ())
noncomputable def F63c2 (k : Nat) (x0 : List (Int × Bool × Bool × (List Int) × Int × Int × Int × Int × ByteArray × Unit)) (x1 : List (Int × Bool × Bool × (List Int) × Int × Int × Int × Int × ByteArray × Unit)) (x2 : List Int) (x3 : List Bool) (x9 : Int) : Option ((Int × Unit) × (Unit × Unit × Unit × Unit × Unit)) := cutF cx 63 2 Tryz.f63 k (x0, x1, x2, x3, x9, ())
/-! loop.example/jetton/impl.keyAll -/
noncomputable def F64 (k : Nat) (a0 : List (Int × Bool × Bool × (List Int) × Int × Int × Int × Int × ByteArray × Unit)) (a1 : List Bool) : Option ((ByteArray × Unit) × (Unit × Unit × Unit)) := callF cx k 64 (a0, a1, ())
noncomputable def F64c3 (k : Nat) (x1 : List Bool) (x5 : List Int) (x8 : List (Int × Bool × Bool × (List Int) × Int × Int × Int × Int × ByteArray × Unit)) (x9 : Int) (x10 : Int) : Option ((ByteArray × Unit) × (Unit × Unit × Unit)) := cutF cx 64 3 Tryz.f64 k (x1, x5, x8, x9, x10, ())
/-! loop.example/jetton/laws.szDec -/
noncomputable def F65 (k : Nat) (a0_0 : Bool) (a0_1 : List Int) (a0_2 : Int) (a1 : Int) : Option ((Int × Unit) × ((Unit × Unit × Unit × Unit) × Unit × Unit)) := callF cx k 65 ((a0_0, a0_1, a0_2, ()), a1, ())
/-! loop.example/jetton/spec.l5Put -/
noncomputable def F66 (k : Nat) (a0_0 : Int) (a0_1 : Bool) (a0_2 : Bool) (a0_3 : List Int) (a0_4 : Int) (a0_5 : Int) (a0_6 : Int) (a0_7 : Int) (a0_8 : ByteArray) (a1 : Bool) : Option ((ByteArray × Unit) × ((Unit × Unit × Unit × Unit × Unit × Unit × Unit × Unit × Unit × Unit) × Unit × Unit)) := callF cx k 66 ((a0_0, a0_1, a0_2, a0_3, a0_4, a0_5, a0_6, a0_7, a0_8, ()), a1, ())
/-! loop.example/jetton/laws.toDec -/
noncomputable def F67 (k : Nat) (a0_0 : Bool) (a0_1 : List Int) (a0_2 : Int) : Option (((Bool × (List Int) × Int × Unit) × Unit) × ((Unit × Unit × Unit × Unit) × Unit)) := callF cx k 67 ((a0_0, a0_1, a0_2, ()), ())
/-! loop.example/jetton/laws.toSpan -/
noncomputable def F68 (k : Nat) (a0_0 : Int) (a0_1 : Int) : Option (((Int × Int × Unit) × Unit) × ((Unit × Unit × Unit) × Unit)) := callF cx k 68 ((a0_0, a0_1, ()), ())
/-! loop.example/jetton/spec.l14ValueOf -/
noncomputable def F70 (k : Nat) (a0_0 : List Int) (a0_1 : Int) (a1 : Int) : Option (((Int × Bool × Bool × (List Int) × Int × Int × Int × Int × ByteArray × Unit) × Unit) × (((List Int) × Int × Unit) × Unit × Unit)) := callF cx k 70 ((a0_0, a0_1, ()), a1, ())
/-! loop.example/jetton/impl.DecOk -/
noncomputable def F71 (k : Nat) (a0_0 : Bool) (a0_1 : List Int) (a0_2 : Int) : Option ((Bool × Unit) × ((Unit × Unit × Unit × Unit) × Unit)) := callF cx k 71 ((a0_0, a0_1, a0_2, ()), ())
/-! loop.example/jetton/impl.isDay -/
noncomputable def F72 (k : Nat) (a0 : Int) : Option ((Bool × Unit) × (Unit × Unit)) := callF cx k 72 (a0, ())
/-! loop.example/jetton/impl.SpanOk -/
noncomputable def F73 (k : Nat) (a0_0 : Int) (a0_1 : Int) : Option ((Bool × Unit) × ((Unit × Unit × Unit) × Unit)) := callF cx k 73 ((a0_0, a0_1, ()), ())
/-! (loop.example/jetton/impl.Dec).zero -/
noncomputable def F74 (k : Nat) (a0_0 : Bool) (a0_1 : List Int) (a0_2 : Int) : Option ((Bool × Unit) × ((Unit × Unit × Unit × Unit) × Unit)) := callF cx k 74 ((a0_0, a0_1, a0_2, ()), ())
/-! cmp.Compare[int] -/
noncomputable def F75 (k : Nat) (a0 : Int) (a1 : Int) : Option ((Int × Unit) × (Unit × Unit × Unit)) := callF cx k 75 (a0, a1, ())
/-! (loop.example/jetton/impl.Value).cmp -/
noncomputable def F76 (k : Nat) (a0_0 : Int) (a0_1 : Bool) (a0_2 : Bool) (a0_3 : List Int) (a0_4 : Int) (a0_5 : Int) (a0_6 : Int) (a0_7 : Int) (a0_8 : ByteArray) (a1_0 : Int) (a1_1 : Bool) (a1_2 : Bool) (a1_3 : List Int) (a1_4 : Int) (a1_5 : Int) (a1_6 : Int) (a1_7 : Int) (a1_8 : ByteArray) : Option ((Int × Unit) × ((Unit × Unit × Unit × Unit × Unit × Unit × Unit × Unit × Unit × Unit) × (Unit × Unit × Unit × Unit × Unit × Unit × Unit × Unit × Unit × Unit) × Unit)) := callF cx k 76 ((a0_0, a0_1, a0_2, a0_3, a0_4, a0_5, a0_6, a0_7, a0_8, ()), (a1_0, a1_1, a1_2, a1_3, a1_4, a1_5, a1_6, a1_7, a1_8, ()), ())
/-! loop.example/jetton/spec.l1In -/
noncomputable def F77 (k : Nat) (a0 : Int) (a1 : Int) (a2 : Int) : Option ((Bool × Unit) × (Unit × Unit × Unit × Unit)) := callF cx k 77 (a0, a1, a2, ())
/-! loop.example/jetton/spec.l4Bare -/
noncomputable def F78 (k : Nat) (a0_0 : Int) (a0_1 : Bool) (a0_2 : Bool) (a0_3 : List Int) (a0_4 : Int) (a0_5 : Int) (a0_6 : Int) (a0_7 : Int) (a0_8 : ByteArray) : Option ((Bool × Unit) × ((Unit × Unit × Unit × Unit × Unit × Unit × Unit × Unit × Unit × Unit) × Unit)) := callF cx k 78 ((a0_0, a0_1, a0_2, a0_3, a0_4, a0_5, a0_6, a0_7, a0_8, ()), ())
/-! loop.example/jetton/spec.l2Ok -/
noncomputable def F79 (k : Nat) (a0_0 : Bool) (a0_1 : List Int) (a0_2 : Int) : Option ((Bool × Unit) × ((Unit × Unit × Unit × Unit) × Unit)) := callF cx k 79 ((a0_0, a0_1, a0_2, ()), ())
/-! loop.example/jetton/spec.l3Is -/
noncomputable def F80 (k : Nat) (a0 : Int) : Option ((Bool × Unit) × (Unit × Unit)) := callF cx k 80 (a0, ())
/-! loop.example/jetton/spec.l3SpanOk -/
noncomputable def F81 (k : Nat) (a0_0 : Int) (a0_1 : Int) : Option ((Bool × Unit) × ((Unit × Unit × Unit) × Unit)) := callF cx k 81 ((a0_0, a0_1, ()), ())
/-! loop.example/jetton/spec.l4Text -/
noncomputable def F82 (k : Nat) (a0 : ByteArray) : Option ((Bool × Unit) × (Unit × Unit)) := callF cx k 82 (a0, ())
noncomputable def F82c2 (k : Nat) (x0 : ByteArray) (x3 : Int) : Option ((Bool × Unit) × (Unit × Unit)) := cutF cx 82 2 Tryz.f82 k (x0, x3, ())
/-! loop.example/jetton/spec.l4Int -/
noncomputable def F83 (k : Nat) (a0 : Int) (a1 : Int) : Option ((Int × Unit) × (Unit × Unit × Unit)) := callF cx k 83 (a0, a1, ())
/-! loop.example/jetton/spec.l4Cmp -/
noncomputable def F84 (k : Nat) (a0_0 : Int) (a0_1 : Bool) (a0_2 : Bool) (a0_3 : List Int) (a0_4 : Int) (a0_5 : Int) (a0_6 : Int) (a0_7 : Int) (a0_8 : ByteArray) (a1_0 : Int) (a1_1 : Bool) (a1_2 : Bool) (a1_3 : List Int) (a1_4 : Int) (a1_5 : Int) (a1_6 : Int) (a1_7 : Int) (a1_8 : ByteArray) : Option ((Int × Unit) × ((Unit × Unit × Unit × Unit × Unit × Unit × Unit × Unit × Unit × Unit) × (Unit × Unit × Unit × Unit × Unit × Unit × Unit × Unit × Unit × Unit) × Unit)) := callF cx k 84 ((a0_0, a0_1, a0_2, a0_3, a0_4, a0_5, a0_6, a0_7, a0_8, ()), (a1_0, a1_1, a1_2, a1_3, a1_4, a1_5, a1_6, a1_7, a1_8, ()), ())
/-! loop.example/jetton/impl.truth -/
noncomputable def F85 (k : Nat) (a0 : Bool) : Option ((Int × Unit) × (Unit × Unit)) := callF cx k 85 (a0, ())
/-! loop.example/jetton/impl.numKey -/
noncomputable def F86 (k : Nat) (a0_0 : Bool) (a0_1 : List Int) (a0_2 : Int) : Option (((List Int) × Unit) × ((Unit × Unit × Unit × Unit) × Unit)) := callF cx k 86 ((a0_0, a0_1, a0_2, ()), ())
noncomputable def F86c7 (k : Nat) (x1_0 : Bool) (x1_1 : List Int) (x1_2 : Int) (x4 : List Int) (x29 : List Int) (x30 : Int) (x31 : Int) : Option (((List Int) × Unit) × ((Unit × Unit × Unit × Unit) × Unit)) := cutF cx 86 7 Tryz.f86 k ((x1_0, x1_1, x1_2, ()), x4, x29, x30, x31, ())
/-! loop.example/jetton/impl.three -/
noncomputable def F87 (k : Nat) (a0 : Int) : Option (((List Int) × Unit) × (Unit × Unit)) := callF cx k 87 (a0, ())
/-! loop.example/jetton/spec.l5Turn -/
noncomputable def F88 (k : Nat) (a0 : ByteArray) : Option ((ByteArray × Unit) × (Unit × Unit)) := callF cx k 88 (a0, ())
noncomputable def F88c3 (k : Nat) (x0 : ByteArray) (x3 : List Int) (x4 : Int) : Option ((ByteArray × Unit) × (Unit × Unit)) := cutF cx 88 3 Tryz.f88 k (x0, x3, x4, ())
/-! loop.example/jetton/impl.big -/
noncomputable def F91 (k : Nat) (a0 : Bool) (a1 : List Int) : Option (((Bool × (List Int) × Unit) × Bool × Unit) × (Unit × Unit × Unit)) := callF cx k 91 (a0, a1, ())
/-! loop.example/jetton/laws.eqBig -/
noncomputable def F95 (k : Nat) (a0_0 : Bool) (a0_1 : List Int) (a1_0 : Bool) (a1_1 : List Int) : Option ((Bool × Unit) × ((Unit × Unit × Unit) × (Unit × Unit × Unit) × Unit)) := callF cx k 95 ((a0_0, a0_1, ()), (a1_0, a1_1, ()), ())
/-! loop.example/jetton/spec.l14Type -/
noncomputable def F98 (k : Nat) (a0_0 : List Int) (a0_1 : Int) : Option (((Int × Int × Int × Unit) × Unit) × (((List Int) × Int × Unit) × Unit)) := callF cx k 98 ((a0_0, a0_1, ()), ())
noncomputable def F98c7 (k : Nat) (x0_0 : List Int) (x0_1 : Int) (x2_0 : Int) (x2_1 : Int) (x2_2 : Int) (x3 : Int) (x4 : Int) (x5 : Int) : Option (((Int × Int × Int × Unit) × Unit) × (((List Int) × Int × Unit) × Unit)) := cutF cx 98 7 Tryz.f98 k ((x0_0, x0_1, ()), (x2_0, x2_1, x2_2, ()), x3, x4, x5, ())
/-! loop.example/jetton/spec.l14Fit -/
noncomputable def F99 (k : Nat) (a0_0 : List Int) (a0_1 : Int) (a1_0 : Int) (a1_1 : Int) (a1_2 : Int) : Option (((Int × Bool × Bool × (List Int) × Int × Int × Int × Int × ByteArray × Unit) × Unit) × (((List Int) × Int × Unit) × (Unit × Unit × Unit × Unit) × Unit)) := callF cx k 99 ((a0_0, a0_1, ()), (a1_0, a1_1, a1_2, ()), ())
/-! loop.example/jetton/spec.l14Value -/
noncomputable def F100 (k : Nat) (a0_0 : List Int) (a0_1 : Int) : Option (((Int × Bool × Bool × (List Int) × Int × Int × Int × Int × ByteArray × Unit) × Unit) × (((List Int) × Int × Unit) × Unit)) := callF cx k 100 ((a0_0, a0_1, ()), ())
/-! (*loop.example/jetton/spec.l1Rd).of -/
noncomputable def F101 (k : Nat) (a0_0 : List Int) (a0_1 : Int) (a1 : List ByteArray) : Option ((ByteArray × Unit) × (((List Int) × Int × Unit) × Unit × Unit)) := callF cx k 101 ((a0_0, a0_1, ()), a1, ())
/-! loop.example/jetton/spec.l14AnyDec -/
noncomputable def F102 (k : Nat) (a0_0 : List Int) (a0_1 : Int) : Option (((Bool × (List Int) × Int × Unit) × Unit) × (((List Int) × Int × Unit) × Unit)) := callF cx k 102 ((a0_0, a0_1, ()), ())
noncomputable def F102c9 (k : Nat) (x0_0 : List Int) (x0_1 : Int) (x2_0 : Bool) (x2_1 : List Int) (x2_2 : Int) (x3_0 : Bool) (x3_1 : List Int) (x3_2 : Int) : Option (((Bool × (List Int) × Int × Unit) × Unit) × (((List Int) × Int × Unit) × Unit)) := cutF cx 102 9 Tryz.f102 k ((x0_0, x0_1, ()), (x2_0, x2_1, x2_2, ()), (x3_0, x3_1, x3_2, ()), ())
/-! loop.example/jetton/spec.l14AnyDay -/
noncomputable def F103 (k : Nat) (a0_0 : List Int) (a0_1 : Int) : Option ((Int × Unit) × (((List Int) × Int × Unit) × Unit)) := callF cx k 103 ((a0_0, a0_1, ()), ())
/-! loop.example/jetton/spec.l14AnySpan -/
noncomputable def F104 (k : Nat) (a0_0 : List Int) (a0_1 : Int) : Option (((Int × Int × Unit) × Unit) × (((List Int) × Int × Unit) × Unit)) := callF cx k 104 ((a0_0, a0_1, ()), ())
noncomputable def F104c4 (k : Nat) (x0_0 : List Int) (x0_1 : Int) (x2_0 : Int) (x2_1 : Int) (x3_0 : Int) (x3_1 : Int) : Option (((Int × Int × Unit) × Unit) × (((List Int) × Int × Unit) × Unit)) := cutF cx 104 4 Tryz.f104 k ((x0_0, x0_1, ()), (x2_0, x2_1, ()), (x3_0, x3_1, ()), ())
noncomputable def F104c6 (k : Nat) (x0_0 : List Int) (x0_1 : Int) (x2_0 : Int) (x2_1 : Int) (x3_0 : Int) (x3_1 : Int) : Option (((Int × Int × Unit) × Unit) × (((List Int) × Int × Unit) × Unit)) := cutF cx 104 6 Tryz.f104 k ((x0_0, x0_1, ()), (x2_0, x2_1, ()), (x3_0, x3_1, ()), ())
/-! loop.example/jetton/laws.szBig -/
noncomputable def F107 (k : Nat) (a0_0 : Bool) (a0_1 : List Int) (a1 : Int) : Option ((Int × Unit) × ((Unit × Unit × Unit) × Unit × Unit)) := callF cx k 107 ((a0_0, a0_1, ()), a1, ())
/-! loop.example/jetton/spec.l5Body -/
noncomputable def F108 (k : Nat) (a0_0 : Int) (a0_1 : Bool) (a0_2 : Bool) (a0_3 : List Int) (a0_4 : Int) (a0_5 : Int) (a0_6 : Int) (a0_7 : Int) (a0_8 : ByteArray) : Option ((ByteArray × Unit) × ((Unit × Unit × Unit × Unit × Unit × Unit × Unit × Unit × Unit × Unit) × Unit)) := callF cx k 108 ((a0_0, a0_1, a0_2, a0_3, a0_4, a0_5, a0_6, a0_7, a0_8, ()), ())
/-! loop.example/jetton/laws.toBig -/
noncomputable def F109 (k : Nat) (a0_0 : Bool) (a0_1 : List Int) : Option (((Bool × (List Int) × Unit) × Unit) × ((Unit × Unit × Unit) × Unit)) := callF cx k 109 ((a0_0, a0_1, ()), ())
/-! loop.example/jetton/spec.l11Bool -/
noncomputable def F110 (k : Nat) (a0 : Bool) : Option (((Int × Bool × Bool × (List Int) × Int × Int × Int × Int × ByteArray × Unit) × Unit) × (Unit × Unit)) := callF cx k 110 (a0, ())
/-! loop.example/jetton/spec.l4Num -/
noncomputable def F111 (k : Nat) (a0_0 : Bool) (a0_1 : List Int) (a0_2 : Int) : Option (((Int × Bool × Bool × (List Int) × Int × Int × Int × Int × ByteArray × Unit) × Unit) × ((Unit × Unit × Unit × Unit) × Unit)) := callF cx k 111 ((a0_0, a0_1, a0_2, ()), ())
/-! loop.example/jetton/spec.l14Dec -/
noncomputable def F112 (k : Nat) (a0_0 : List Int) (a0_1 : Int) : Option (((Bool × (List Int) × Int × Unit) × Unit) × (((List Int) × Int × Unit) × Unit)) := callF cx k 112 ((a0_0, a0_1, ()), ())
/-! loop.example/jetton/spec.l14Day -/
noncomputable def F113 (k : Nat) (a0_0 : List Int) (a0_1 : Int) : Option ((Int × Unit) × (((List Int) × Int × Unit) × Unit)) := callF cx k 113 ((a0_0, a0_1, ()), ())
/-! loop.example/jetton/spec.l14Span -/
noncomputable def F114 (k : Nat) (a0_0 : List Int) (a0_1 : Int) : Option (((Int × Int × Unit) × Unit) × (((List Int) × Int × Unit) × Unit)) := callF cx k 114 ((a0_0, a0_1, ()), ())
/-! loop.example/jetton/spec.l14Word -/
noncomputable def F115 (k : Nat) (a0_0 : List Int) (a0_1 : Int) : Option ((ByteArray × Unit) × (((List Int) × Int × Unit) × Unit)) := callF cx k 115 ((a0_0, a0_1, ()), ())
/-! loop.example/jetton/impl.BigOk -/
noncomputable def F116 (k : Nat) (a0_0 : Bool) (a0_1 : List Int) : Option ((Bool × Unit) × ((Unit × Unit × Unit) × Unit)) := callF cx k 116 ((a0_0, a0_1, ()), ())
/-! (loop.example/jetton/impl.limbs).digits -/
noncomputable def F117 (k : Nat) (a0 : List Int) : Option ((Int × Unit) × (Unit × Unit)) := callF cx k 117 (a0, ())
/-! cmp.isNaN[int] -/
noncomputable def F118 (k : Nat) (a0 : Int) : Option ((Bool × Unit) × (Unit × Unit)) := callF cx k 118 (a0, ())
/-! (loop.example/jetton/impl.Dec).cmp -/
noncomputable def F119 (k : Nat) (a0_0 : Bool) (a0_1 : List Int) (a0_2 : Int) (a1_0 : Bool) (a1_1 : List Int) (a1_2 : Int) : Option ((Int × Unit) × ((Unit × Unit × Unit × Unit) × (Unit × Unit × Unit × Unit) × Unit)) := callF cx k 119 ((a0_0, a0_1, a0_2, ()), (a1_0, a1_1, a1_2, ()), ())
/-! cmp.Or[int] -/
noncomputable def F120 (k : Nat) (a0 : List Int) : Option ((Int × Unit) × (Unit × Unit)) := callF cx k 120 (a0, ())
noncomputable def F120c3 (k : Nat) (x3 : Int) (x6 : List Int) (x7 : Int) (x8 : Int) : Option ((Int × Unit) × (Unit × Unit)) := cutF cx 120 3 Tryz.f120 k (x3, x6, x7, x8, ())
/-! strings.Compare -/
noncomputable def F121 (k : Nat) (a0 : ByteArray) (a1 : ByteArray) : Option ((Int × Unit) × (Unit × Unit × Unit)) := callF cx k 121 (a0, a1, ())
/-! loop.example/jetton/spec.l4Zero -/
noncomputable def F122 (k : Nat) (a0_0 : Bool) (a0_1 : List Int) (a0_2 : Int) : Option ((Bool × Unit) × ((Unit × Unit × Unit × Unit) × Unit)) := callF cx k 122 ((a0_0, a0_1, a0_2, ()), ())
/-! loop.example/jetton/spec.l1Ok -/
noncomputable def F123 (k : Nat) (a0_0 : Bool) (a0_1 : List Int) : Option ((Bool × Unit) × ((Unit × Unit × Unit) × Unit)) := callF cx k 123 ((a0_0, a0_1, ()), ())
noncomputable def F123c4 (k : Nat) (x1_0 : Bool) (x1_1 : List Int) (x3 : Int) : Option ((Bool × Unit) × ((Unit × Unit × Unit) × Unit)) := cutF cx 123 4 Tryz.f123 k ((x1_0, x1_1, ()), x3, ())
/-! loop.example/jetton/spec.l1Long -/
noncomputable def F124 (k : Nat) (a0 : List Int) : Option ((Int × Unit) × (Unit × Unit)) := callF cx k 124 (a0, ())
/-! loop.example/jetton/spec.l4Bit -/
noncomputable def F125 (k : Nat) (a0 : Bool) : Option ((Int × Unit) × (Unit × Unit)) := callF cx k 125 (a0, ())
/-! loop.example/jetton/spec.l2Cmp -/
noncomputable def F126 (k : Nat) (a0_0 : Bool) (a0_1 : List Int) (a0_2 : Int) (a1_0 : Bool) (a1_1 : List Int) (a1_2 : Int) : Option ((Int × Unit) × ((Unit × Unit × Unit × Unit) × (Unit × Unit × Unit × Unit) × Unit)) := callF cx k 126 ((a0_0, a0_1, a0_2, ()), (a1_0, a1_1, a1_2, ()), ())
/-! loop.example/jetton/spec.l4Str -/
noncomputable def F127 (k : Nat) (a0 : ByteArray) (a1 : ByteArray) : Option ((Int × Unit) × (Unit × Unit × Unit)) := callF cx k 127 (a0, a1, ())
/-! loop.example/jetton/impl.DecTrim -/
noncomputable def F128 (k : Nat) (a0_0 : Bool) (a0_1 : List Int) (a0_2 : Int) : Option (((Bool × (List Int) × Int × Unit) × Unit) × ((Unit × Unit × Unit × Unit) × Unit)) := callF cx k 128 ((a0_0, a0_1, a0_2, ()), ())
noncomputable def F128c4 (k : Nat) (x1_0 : Bool) (x1_1 : List Int) (x1_2 : Int) (x2_0 : Bool) (x2_1 : List Int) (x2_2 : Int) (x3 : List Int) (x4 : Int) : Option (((Bool × (List Int) × Int × Unit) × Unit) × ((Unit × Unit × Unit × Unit) × Unit)) := cutF cx 128 4 Tryz.f128 k ((x1_0, x1_1, x1_2, ()), (x2_0, x2_1, x2_2, ()), x3, x4, ())
/-! (loop.example/jetton/impl.limbs).text -/
noncomputable def F129 (k : Nat) (a0 : List Int) : Option ((ByteArray × Unit) × (Unit × Unit)) := callF cx k 129 (a0, ())
/-! strings.TrimRight -/
noncomputable def F130 (k : Nat) (a0 : ByteArray) (a1 : ByteArray) : Option ((ByteArray × Unit) × (Unit × Unit × Unit)) := callF cx k 130 (a0, a1, ())
/-! (loop.example/jetton/impl.limbs).trim -/
noncomputable def F139 (k : Nat) (a0 : List Int) : Option (((List Int) × Unit) × (Unit × Unit)) := callF cx k 139 (a0, ())
noncomputable def F139c1 (k : Nat) (x0 : List Int) : Option (((List Int) × Unit) × (Unit × Unit)) := cutF cx 139 1 Tryz.f139 k (x0, ())
/-! loop.example/jetton/impl.clone[int] -/
noncomputable def F140 (k : Nat) (a0 : List Int) : Option (((List Int) × Unit) × (Unit × Unit)) := callF cx k 140 (a0, ())
/-! loop.example/jetton/laws.eqIntS -/
noncomputable def F143 (k : Nat) (a0 : List Int) (a1 : List Int) : Option ((Bool × Unit) × (Unit × Unit × Unit)) := callF cx k 143 (a0, a1, ())
noncomputable def F143c4 (k : Nat) (x0 : List Int) (x1 : List Int) (x5 : Int) : Option ((Bool × Unit) × (Unit × Unit × Unit)) := cutF cx 143 4 Tryz.f143 k (x0, x1, x5, ())
/-! loop.example/jetton/spec.l4ToNum -/
noncomputable def F146 (k : Nat) (a0_0 : Bool) (a0_1 : List Int) (a0_2 : Int) (a1_0 : Int) (a1_1 : Int) (a1_2 : Int) : Option (((Int × Bool × Bool × (List Int) × Int × Int × Int × Int × ByteArray × Unit) × Int × Unit) × ((Unit × Unit × Unit × Unit) × (Unit × Unit × Unit × Unit) × Unit)) := callF cx k 146 ((a0_0, a0_1, a0_2, ()), (a1_0, a1_1, a1_2, ()), ())
/-! loop.example/jetton/spec.l14Big -/
noncomputable def F147 (k : Nat) (a0_0 : List Int) (a0_1 : Int) (a1 : Int) : Option (((Bool × (List Int) × Unit) × Unit) × (((List Int) × Int × Unit) × Unit × Unit)) := callF cx k 147 ((a0_0, a0_1, ()), a1, ())
noncomputable def F147c4 (k : Nat) (x0_0 : List Int) (x0_1 : Int) (x4_0 : Bool) (x4_1 : List Int) (x5 : Int) : Option (((Bool × (List Int) × Unit) × Unit) × (((List Int) × Int × Unit) × Unit × Unit)) := cutF cx 147 4 Tryz.f147 k ((x0_0, x0_1, ()), (x4_0, x4_1, ()), x5, ())
noncomputable def F147c7 (k : Nat) (x0_0 : List Int) (x0_1 : Int) (x4_0 : Bool) (x4_1 : List Int) (x5 : Int) (x6 : ByteArray) : Option (((Bool × (List Int) × Unit) × Unit) × (((List Int) × Int × Unit) × Unit × Unit)) := cutF cx 147 7 Tryz.f147 k ((x0_0, x0_1, ()), (x4_0, x4_1, ()), x5, x6, ())
noncomputable def F147c9 (k : Nat) (x0_0 : List Int) (x0_1 : Int) (x4_0 : Bool) (x4_1 : List Int) (x6 : ByteArray) : Option (((Bool × (List Int) × Unit) × Unit) × (((List Int) × Int × Unit) × Unit × Unit)) := cutF cx 147 9 Tryz.f147 k ((x0_0, x0_1, ()), (x4_0, x4_1, ()), x6, ())
/-! loop.example/jetton/spec.l14AnyBig -/
noncomputable def F148 (k : Nat) (a0_0 : List Int) (a0_1 : Int) : Option (((Bool × (List Int) × Unit) × Unit) × (((List Int) × Int × Unit) × Unit)) := callF cx k 148 ((a0_0, a0_1, ()), ())
noncomputable def F148c12 (k : Nat) (x0_0 : List Int) (x0_1 : Int) (x2_0 : Bool) (x2_1 : List Int) (x3_0 : Bool) (x3_1 : List Int) : Option (((Bool × (List Int) × Unit) × Unit) × (((List Int) × Int × Unit) × Unit)) := cutF cx 148 12 Tryz.f148 k ((x0_0, x0_1, ()), (x2_0, x2_1, ()), (x3_0, x3_1, ()), ())
noncomputable def F148c10 (k : Nat) (x0_0 : List Int) (x0_1 : Int) (x2_0 : Bool) (x2_1 : List Int) (x3_0 : Bool) (x3_1 : List Int) : Option (((Bool × (List Int) × Unit) × Unit) × (((List Int) × Int × Unit) × Unit)) := cutF cx 148 10 Tryz.f148 k ((x0_0, x0_1, ()), (x2_0, x2_1, ()), (x3_0, x3_1, ()), ())
/-! loop.example/jetton/laws.szIntS -/
noncomputable def F149 (k : Nat) (a0 : List Int) (a1 : Int) : Option ((Int × Unit) × (Unit × Unit × Unit)) := callF cx k 149 (a0, a1, ())
/-! loop.example/jetton/spec.l5Num -/
noncomputable def F150 (k : Nat) (a0_0 : Bool) (a0_1 : List Int) (a0_2 : Int) : Option ((ByteArray × Unit) × ((Unit × Unit × Unit × Unit) × Unit)) := callF cx k 150 ((a0_0, a0_1, a0_2, ()), ())
noncomputable def F150c7 (k : Nat) (x1_0 : Bool) (x1_1 : List Int) (x1_2 : Int) (x4 : ByteArray) (x5 : Int) (x6 : Int) : Option ((ByteArray × Unit) × ((Unit × Unit × Unit × Unit) × Unit)) := cutF cx 150 7 Tryz.f150 k ((x1_0, x1_1, x1_2, ()), x4, x5, x6, ())
/-! loop.example/jetton/spec.l5Three -/
noncomputable def F151 (k : Nat) (a0 : Int) : Option ((ByteArray × Unit) × (Unit × Unit)) := callF cx k 151 (a0, ())
/-! loop.example/jetton/laws.toIntS -/
noncomputable def F152 (k : Nat) (a0 : List Int) : Option (((List Int) × Unit) × (Unit × Unit)) := callF cx k 152 (a0, ())
noncomputable def F152c3 (k : Nat) (x0 : List Int) (x3 : List Int) (x4 : Int) : Option (((List Int) × Unit) × (Unit × Unit)) := cutF cx 152 3 Tryz.f152 k (x0, x3, x4, ())
/-! loop.example/jetton/spec.BigOf -/
noncomputable def F153 (k : Nat) (a0 : Int) : Option (((Bool × (List Int) × Unit) × Unit) × (Unit × Unit)) := callF cx k 153 (a0, ())
noncomputable def F153c3 (k : Nat) (x0 : Int) (x2_0 : Bool) (x2_1 : List Int) (x3 : List Int) (x4 : Int) : Option (((Bool × (List Int) × Unit) × Unit) × (Unit × Unit)) := cutF cx 153 3 Tryz.f153 k (x0, (x2_0, x2_1, ()), x3, x4, ())
noncomputable def F153c7 (k : Nat) (x0 : Int) (x2_0 : Bool) (x2_1 : List Int) (x3 : List Int) (x4 : Int) (x5 : Int) : Option (((Bool × (List Int) × Unit) × Unit) × (Unit × Unit)) := cutF cx 153 7 Tryz.f153 k (x0, (x2_0, x2_1, ()), x3, x4, x5, ())
/-! loop.example/jetton/spec.l3Of -/
noncomputable def F154 (k : Nat) (a0 : Int) (a1 : Int) (a2 : Int) : Option ((Int × Unit) × (Unit × Unit × Unit × Unit)) := callF cx k 154 (a0, a1, a2, ())
noncomputable def F154c3 (k : Nat) (x0 : Int) (x1 : Int) (x7 : Int) (x8 : Int) : Option ((Int × Unit) × (Unit × Unit × Unit × Unit)) := cutF cx 154 3 Tryz.f154 k (x0, x1, x7, x8, ())
/-! loop.example/jetton/impl.BigOk$1 -/
noncomputable def F155 (k : Nat) (a0 : Int) : Option ((Bool × Unit) × (Unit × Unit)) := callF cx k 155 (a0, ())
/-! (loop.example/jetton/impl.Dec).at -/
noncomputable def F156 (k : Nat) (a0_0 : Bool) (a0_1 : List Int) (a0_2 : Int) (a1 : Int) : Option (((Bool × (List Int) × Unit) × Unit) × ((Unit × Unit × Unit × Unit) × Unit × Unit)) := callF cx k 156 ((a0_0, a0_1, a0_2, ()), a1, ())
/-! (loop.example/jetton/impl.signed).add -/
noncomputable def F157 (k : Nat) (a0_0 : Bool) (a0_1 : List Int) (a1_0 : Bool) (a1_1 : List Int) : Option (((Bool × (List Int) × Unit) × Unit) × ((Unit × Unit × Unit) × (Unit × Unit × Unit) × Unit)) := callF cx k 157 ((a0_0, a0_1, ()), (a1_0, a1_1, ()), ())
/-! (loop.example/jetton/impl.signed).minus -/
noncomputable def F158 (k : Nat) (a0_0 : Bool) (a0_1 : List Int) : Option (((Bool × (List Int) × Unit) × Unit) × ((Unit × Unit × Unit) × Unit)) := callF cx k 158 ((a0_0, a0_1, ()), ())
/-! (loop.example/jetton/impl.signed).sign -/
noncomputable def F159 (k : Nat) (a0_0 : Bool) (a0_1 : List Int) : Option ((Int × Unit) × ((Unit × Unit × Unit) × Unit)) := callF cx k 159 ((a0_0, a0_1, ()), ())
/-! loop.example/jetton/spec.l1Figures -/
noncomputable def F161 (k : Nat) (a0 : List Int) : Option ((ByteArray × Unit) × (Unit × Unit)) := callF cx k 161 (a0, ())
noncomputable def F161c5 (k : Nat) (x0 : List Int) (x3 : ByteArray) (x4 : Int) : Option ((ByteArray × Unit) × (Unit × Unit)) := cutF cx 161 5 Tryz.f161 k (x0, x3, x4, ())
/-! loop.example/jetton/spec.l2Greater -/
noncomputable def F162 (k : Nat) (a0 : Int) (a1 : Int) : Option ((Int × Unit) × (Unit × Unit × Unit)) := callF cx k 162 (a0, a1, ())
/-! loop.example/jetton/spec.l2At -/
noncomputable def F163 (k : Nat) (a0_0 : Bool) (a0_1 : List Int) (a0_2 : Int) (a1 : Int) : Option (((List Int) × Unit) × ((Unit × Unit × Unit × Unit) × Unit × Unit)) := callF cx k 163 ((a0_0, a0_1, a0_2, ()), a1, ())
/-! loop.example/jetton/spec.l1Cmp -/
noncomputable def F164 (k : Nat) (a0_0 : Bool) (a0_1 : List Int) (a1_0 : Bool) (a1_1 : List Int) : Option ((Int × Unit) × ((Unit × Unit × Unit) × (Unit × Unit × Unit) × Unit)) := callF cx k 164 ((a0_0, a0_1, ()), (a1_0, a1_1, ()), ())
/-! (loop.example/jetton/impl.limbs).div -/
noncomputable def F165 (k : Nat) (a0 : List Int) (a1 : List Int) : Option (((List Int) × (List Int) × Unit) × (Unit × Unit × Unit)) := callF cx k 165 (a0, a1, ())
noncomputable def F165c15 (k : Nat) (x6_0 : List Int) (x7_0 : List Int) : Option (((List Int) × (List Int) × Unit) × (Unit × Unit × Unit)) := cutF cx 165 15 Tryz.f165 k ((x6_0, ()), (x7_0, ()), ())
/-! slices.Clip[[]int,int] -/
noncomputable def F178 (k : Nat) (a0 : List Int) : Option (((List Int) × Unit) × (Unit × Unit)) := callF cx k 178 (a0, ())
/-! slices.Clone[[]int,int] -/
noncomputable def F179 (k : Nat) (a0 : List Int) : Option (((List Int) × Unit) × (Unit × Unit)) := callF cx k 179 (a0, ())
/-! loop.example/jetton/spec.l2Round -/
noncomputable def F186 (k : Nat) (a0_0 : Bool) (a0_1 : List Int) (a0_2 : Int) (a1 : Int) (a2 : Int) : Option (((Bool × (List Int) × Int × Unit) × Int × Unit) × ((Unit × Unit × Unit × Unit) × Unit × Unit × Unit)) := callF cx k 186 ((a0_0, a0_1, a0_2, ()), a1, a2, ())
/-! loop.example/jetton/spec.l14Figs -/
noncomputable def F187 (k : Nat) (a0_0 : List Int) (a0_1 : Int) (a1 : Int) : Option ((ByteArray × Unit) × (((List Int) × Int × Unit) × Unit × Unit)) := callF cx k 187 ((a0_0, a0_1, ()), a1, ())
noncomputable def F187c4 (k : Nat) (x0_0 : List Int) (x0_1 : Int) (x1 : Int) (x5 : ByteArray) : Option ((ByteArray × Unit) × (((List Int) × Int × Unit) × Unit × Unit)) := cutF cx 187 4 Tryz.f187 k ((x0_0, x0_1, ()), x1, x5, ())
/-! loop.example/jetton/spec.l1Many -/
noncomputable def F188 (k : Nat) (a0 : ByteArray) (a1 : Int) : Option ((ByteArray × Unit) × (Unit × Unit × Unit)) := callF cx k 188 (a0, a1, ())
noncomputable def F188c2 (k : Nat) (x0 : ByteArray) (x1 : Int) (x5 : ByteArray) : Option ((ByteArray × Unit) × (Unit × Unit × Unit)) := cutF cx 188 2 Tryz.f188 k (x0, x1, x5, ())
/-! loop.example/jetton/spec.l1Big -/
noncomputable def F189 (k : Nat) (a0 : Bool) (a1 : List Int) : Option (((Bool × (List Int) × Unit) × Bool × Unit) × (Unit × Unit × Unit)) := callF cx k 189 (a0, a1, ())
/-! loop.example/jetton/spec.l1FromFigures -/
noncomputable def F190 (k : Nat) (a0 : ByteArray) : Option (((List Int) × Unit) × (Unit × Unit)) := callF cx k 190 (a0, ())
noncomputable def F190c2 (k : Nat) (x0 : ByteArray) (x3 : List Int) : Option (((List Int) × Unit) × (Unit × Unit)) := cutF cx 190 2 Tryz.f190 k (x0, x3, ())
noncomputable def F190c6 (k : Nat) (x0 : ByteArray) (x3 : List Int) (x4 : Int) : Option (((List Int) × Unit) × (Unit × Unit)) := cutF cx 190 6 Tryz.f190 k (x0, x3, x4, ())
noncomputable def F190c8 (k : Nat) (x0 : ByteArray) (x3 : List Int) (x4 : Int) (x5 : Int) (x6 : Int) : Option (((List Int) × Unit) × (Unit × Unit)) := cutF cx 190 8 Tryz.f190 k (x0, x3, x4, x5, x6, ())
/-! loop.example/jetton/spec.l2Trim -/
noncomputable def F191 (k : Nat) (a0_0 : Bool) (a0_1 : List Int) (a0_2 : Int) : Option (((Bool × (List Int) × Int × Unit) × Unit) × ((Unit × Unit × Unit × Unit) × Unit)) := callF cx k 191 ((a0_0, a0_1, a0_2, ()), ())
noncomputable def F191c3 (k : Nat) (x1_0 : Bool) (x1_1 : List Int) (x1_2 : Int) (x2_0 : Bool) (x2_1 : List Int) (x2_2 : Int) (x3 : List Int) (x4 : Int) : Option (((Bool × (List Int) × Int × Unit) × Unit) × ((Unit × Unit × Unit × Unit) × Unit)) := cutF cx 191 3 Tryz.f191 k ((x1_0, x1_1, x1_2, ()), (x2_0, x2_1, x2_2, ()), x3, x4, ())
/-! loop.example/jetton/spec.l5Digits -/
noncomputable def F192 (k : Nat) (a0 : ByteArray) : Option ((ByteArray × Unit) × (Unit × Unit)) := callF cx k 192 (a0, ())
noncomputable def F192c3 (k : Nat) (x0 : ByteArray) (x3 : List Int) (x4 : Int) : Option ((ByteArray × Unit) × (Unit × Unit)) := cutF cx 192 3 Tryz.f192 k (x0, x3, x4, ())
/-! loop.example/jetton/spec.l3Before -/
noncomputable def F193 (k : Nat) (a0 : Int) : Option ((Int × Unit) × (Unit × Unit)) := callF cx k 193 (a0, ())
/-! loop.example/jetton/spec.l3Last -/
noncomputable def F194 (k : Nat) (a0 : Int) (a1 : Int) : Option ((Int × Unit) × (Unit × Unit × Unit)) := callF cx k 194 (a0, a1, ())
noncomputable def F194c11 (k : Nat) : Option ((Int × Unit) × (Unit × Unit × Unit)) := cutF cx 194 11 Tryz.f194 k ()
/-! (loop.example/jetton/impl.Big).signed -/
noncomputable def F195 (k : Nat) (a0_0 : Bool) (a0_1 : List Int) : Option (((Bool × (List Int) × Unit) × Unit) × ((Unit × Unit × Unit) × Unit)) := callF cx k 195 ((a0_0, a0_1, ()), ())
/-! (loop.example/jetton/impl.limbs).mul -/
noncomputable def F196 (k : Nat) (a0 : List Int) (a1 : List Int) : Option (((List Int) × Unit) × (Unit × Unit × Unit)) := callF cx k 196 (a0, a1, ())
noncomputable def F196c3 (k : Nat) (x1 : List Int) (x5 : List Int) (x19 : List Int) (x20 : Int) (x21 : Int) : Option (((List Int) × Unit) × (Unit × Unit × Unit)) := cutF cx 196 3 Tryz.f196 k (x1, x5, x19, x20, x21, ())
noncomputable def F196c7 (k : Nat) (x1 : List Int) (x5 : List Int) (x6 : Int) (x7 : Int) (x8 : Int) (x19 : List Int) (x20 : Int) (x21 : Int) (x26 : List Int) (x27 : Int) (x28 : Int) : Option (((List Int) × Unit) × (Unit × Unit × Unit)) := cutF cx 196 7 Tryz.f196 k (x1, x5, x6, x7, x8, x19, x20, x21, x26, x27, x28, ())
/-! loop.example/jetton/impl.ten -/
noncomputable def F197 (k : Nat) (a0 : Int) : Option (((List Int) × Unit) × (Unit × Unit)) := callF cx k 197 (a0, ())
noncomputable def F197c3 (k : Nat) (x3 : List Int) (x5 : Int) (x6 : Int) : Option (((List Int) × Unit) × (Unit × Unit)) := cutF cx 197 3 Tryz.f197 k (x3, x5, x6, ())
/-! (loop.example/jetton/impl.limbs).add -/
noncomputable def F198 (k : Nat) (a0 : List Int) (a1 : List Int) : Option (((List Int) × Unit) × (Unit × Unit × Unit)) := callF cx k 198 (a0, a1, ())
noncomputable def F198c4 (k : Nat) (x5 : List Int) (x19 : List Int) (x20 : Int) (x21 : Int) : Option (((List Int) × Unit) × (Unit × Unit × Unit)) := cutF cx 198 4 Tryz.f198 k (x5, x19, x20, x21, ())
noncomputable def F198c9 (k : Nat) (x5 : List Int) (x36 : Int) (x37 : Int) : Option (((List Int) × Unit) × (Unit × Unit × Unit)) := cutF cx 198 9 Tryz.f198 k (x5, x36, x37, ())
/-! (loop.example/jetton/impl.limbs).cmp -/
noncomputable def F199 (k : Nat) (a0 : List Int) (a1 : List Int) : Option ((Int × Unit) × (Unit × Unit × Unit)) := callF cx k 199 (a0, a1, ())
noncomputable def F199c4 (k : Nat) (x0 : List Int) (x1 : List Int) (x5 : Int) : Option ((Int × Unit) × (Unit × Unit × Unit)) := cutF cx 199 4 Tryz.f199 k (x0, x1, x5, ())
/-! (loop.example/jetton/impl.limbs).sub -/
noncomputable def F200 (k : Nat) (a0 : List Int) (a1 : List Int) : Option (((List Int) × Unit) × (Unit × Unit × Unit)) := callF cx k 200 (a0, a1, ())
noncomputable def F200c3 (k : Nat) (x5 : List Int) (x11 : List Int) (x12 : Int) (x13 : Int) : Option (((List Int) × Unit) × (Unit × Unit × Unit)) := cutF cx 200 3 Tryz.f200 k (x5, x11, x12, x13, ())
noncomputable def F200c8 (k : Nat) (x5 : List Int) (x27 : Int) (x28 : Int) : Option (((List Int) × Unit) × (Unit × Unit × Unit)) := cutF cx 200 8 Tryz.f200 k (x5, x27, x28, ())
noncomputable def F200c13 (k : Nat) (x5 : List Int) (x27 : Int) (x28 : Int) : Option (((List Int) × Unit) × (Unit × Unit × Unit)) := cutF cx 200 13 Tryz.f200 k (x5, x27, x28, ())
/-! loop.example/jetton/spec.l1Dec -/
noncomputable def F202 (k : Nat) (a0 : Int) : Option ((ByteArray × Unit) × (Unit × Unit)) := callF cx k 202 (a0, ())
/-! loop.example/jetton/spec.l1Wide -/
noncomputable def F203 (k : Nat) (a0 : Int) (a1 : Int) : Option ((ByteArray × Unit) × (Unit × Unit × Unit)) := callF cx k 203 (a0, a1, ())
noncomputable def F203c2 (k : Nat) (x1 : Int) (x5 : ByteArray) : Option ((ByteArray × Unit) × (Unit × Unit × Unit)) := cutF cx 203 2 Tryz.f203 k (x1, x5, ())
/-! loop.example/jetton/spec.l1MulAbs -/
noncomputable def F204 (k : Nat) (a0 : List Int) (a1 : List Int) : Option (((List Int) × Unit) × (Unit × Unit × Unit)) := callF cx k 204 (a0, a1, ())
noncomputable def F204c3 (k : Nat) (x0 : List Int) (x1 : List Int) (x5 : List Int) (x6 : Int) : Option (((List Int) × Unit) × (Unit × Unit × Unit)) := cutF cx 204 3 Tryz.f204 k (x0, x1, x5, x6, ())
noncomputable def F204c7 (k : Nat) (x0 : List Int) (x1 : List Int) (x5 : List Int) (x6 : Int) (x7 : Int) (x8 : Int) : Option (((List Int) × Unit) × (Unit × Unit × Unit)) := cutF cx 204 7 Tryz.f204 k (x0, x1, x5, x6, x7, x8, ())
/-! loop.example/jetton/spec.l1TenAbs -/
noncomputable def F205 (k : Nat) (a0 : Int) : Option (((List Int) × Unit) × (Unit × Unit)) := callF cx k 205 (a0, ())
noncomputable def F205c2 (k : Nat) (x0 : Int) (x3 : List Int) : Option (((List Int) × Unit) × (Unit × Unit)) := cutF cx 205 2 Tryz.f205 k (x0, x3, ())
noncomputable def F205c6 (k : Nat) (x0 : Int) (x3 : List Int) (x4 : Int) : Option (((List Int) × Unit) × (Unit × Unit)) := cutF cx 205 6 Tryz.f205 k (x0, x3, x4, ())
/-! loop.example/jetton/spec.l1CmpAbs -/
noncomputable def F206 (k : Nat) (a0 : List Int) (a1 : List Int) : Option ((Int × Unit) × (Unit × Unit × Unit)) := callF cx k 206 (a0, a1, ())
noncomputable def F206c6 (k : Nat) (x0 : List Int) (x1 : List Int) (x5 : Int) : Option ((Int × Unit) × (Unit × Unit × Unit)) := cutF cx 206 6 Tryz.f206 k (x0, x1, x5, ())
/-! loop.example/jetton/impl.limbsOf -/
noncomputable def F207 (k : Nat) (a0 : Int) : Option (((List Int) × Unit) × (Unit × Unit)) := callF cx k 207 (a0, ())
noncomputable def F207c2 (k : Nat) (x0 : Int) (x3 : List Int) : Option (((List Int) × Unit) × (Unit × Unit)) := cutF cx 207 2 Tryz.f207 k (x0, x3, ())
/-! loop.example/jetton/spec.l2Make -/
noncomputable def F222 (k : Nat) (a0 : Bool) (a1 : List Int) (a2 : Int) : Option (((Bool × (List Int) × Int × Unit) × Int × Unit) × (Unit × Unit × Unit × Unit)) := callF cx k 222 (a0, a1, a2, ())
/-! loop.example/jetton/spec.l2Div -/
noncomputable def F223 (k : Nat) (a0 : Bool) (a1 : List Int) (a2 : List Int) (a3 : Int) : Option (((List Int) × Unit) × (Unit × Unit × Unit × Unit × Unit)) := callF cx k 223 (a0, a1, a2, a3, ())
/-! loop.example/jetton/spec.l1Trim -/
noncomputable def F224 (k : Nat) (a0 : List Int) : Option (((List Int) × Unit) × (Unit × Unit)) := callF cx k 224 (a0, ())
noncomputable def F224c2 (k : Nat) (x0 : List Int) (x3 : Int) : Option (((List Int) × Unit) × (Unit × Unit)) := cutF cx 224 2 Tryz.f224 k (x0, x3, ())
/-! loop.example/jetton/spec.l1DivAbs -/
noncomputable def F225 (k : Nat) (a0 : List Int) (a1 : List Int) : Option (((List Int) × (List Int) × Unit) × (Unit × Unit × Unit)) := callF cx k 225 (a0, a1, ())
noncomputable def F225c4 (k : Nat) (x0 : List Int) (x1 : List Int) (x6 : List Int) (x7 : List Int) (x8 : Int) : Option (((List Int) × (List Int) × Unit) × (Unit × Unit × Unit)) := cutF cx 225 4 Tryz.f225 k (x0, x1, x6, x7, x8, ())
/-! loop.example/jetton/spec.l3Leap -/
noncomputable def F226 (k : Nat) (a0 : Int) : Option ((Bool × Unit) × (Unit × Unit)) := callF cx k 226 (a0, ())
/-! slices.Clone[loop.example/jetton/impl.limbs,int] -/
noncomputable def F227 (k : Nat) (a0 : List Int) : Option (((List Int) × Unit) × (Unit × Unit)) := callF cx k 227 (a0, ())
/-! loop.example/jetton/spec.l1Limb -/
noncomputable def F228 (k : Nat) (a0 : List Int) (a1 : Int) : Option ((Int × Unit) × (Unit × Unit × Unit)) := callF cx k 228 (a0, a1, ())
/-! loop.example/jetton/spec.l2More -/
noncomputable def F236 (k : Nat) (a0 : Int) (a1 : Bool) (a2 : Bool) (a3 : Int) : Option ((Bool × Unit) × (Unit × Unit × Unit × Unit × Unit)) := callF cx k 236 (a0, a1, a2, a3, ())
/-! loop.example/jetton/spec.l1AddAbs -/
noncomputable def F237 (k : Nat) (a0 : List Int) (a1 : List Int) : Option (((List Int) × Unit) × (Unit × Unit × Unit)) := callF cx k 237 (a0, a1, ())
noncomputable def F237c4 (k : Nat) (x0 : List Int) (x1 : List Int) (x5 : List Int) (x6 : Int) (x7 : Int) : Option (((List Int) × Unit) × (Unit × Unit × Unit)) := cutF cx 237 4 Tryz.f237 k (x0, x1, x5, x6, x7, ())
/-! loop.example/jetton/spec.l1Fits -/
noncomputable def F238 (k : Nat) (a0 : List Int) (a1 : List Int) : Option ((Int × Unit) × (Unit × Unit × Unit)) := callF cx k 238 (a0, a1, ())
noncomputable def F238c3 (k : Nat) (x0 : List Int) (x1 : List Int) (x5 : Int) (x6 : Int) : Option ((Int × Unit) × (Unit × Unit × Unit)) := cutF cx 238 3 Tryz.f238 k (x0, x1, x5, x6, ())
/-! loop.example/jetton/spec.l1SubAbs -/
noncomputable def F239 (k : Nat) (a0 : List Int) (a1 : List Int) : Option (((List Int) × Unit) × (Unit × Unit × Unit)) := callF cx k 239 (a0, a1, ())
noncomputable def F239c4 (k : Nat) (x0 : List Int) (x1 : List Int) (x5 : List Int) (x6 : Int) (x7 : Int) : Option (((List Int) × Unit) × (Unit × Unit × Unit)) := cutF cx 239 4 Tryz.f239 k (x0, x1, x5, x6, x7, ())
noncomputable def F239c11 (k : Nat) (x0 : List Int) (x1 : List Int) (x5 : List Int) (x6 : Int) (x7 : Int) (x8 : Int) : Option (((List Int) × Unit) × (Unit × Unit × Unit)) := cutF cx 239 11 Tryz.f239 k (x0, x1, x5, x6, x7, x8, ())
/-! slices.ContainsFunc[[]loop.example/jetton/impl.Value,loop.example/jetton/impl.Value] -/
noncomputable def F57057 (k : Nat) (a0 : List (Int × Bool × Bool × (List Int) × Int × Int × Int × Int × ByteArray × Unit)) : Option ((Bool × Unit) × (Unit × Unit × Unit)) := callF cx k 57057 (a0, (()), ())
/-! slices.IndexFunc[[]loop.example/jetton/impl.Value,loop.example/jetton/impl.Value] -/
noncomputable def F57105 (k : Nat) (a0 : List (Int × Bool × Bool × (List Int) × Int × Int × Int × Int × ByteArray × Unit)) : Option ((Int × Unit) × (Unit × Unit × Unit)) := callF cx k 57105 (a0, (()), ())
noncomputable def F57105c2 (k : Nat) (x0 : List (Int × Bool × Bool × (List Int) × Int × Int × Int × Int × ByteArray × Unit)) (x7 : Int) (x8 : Int) : Option ((Int × Unit) × (Unit × Unit × Unit)) := cutF cx 57105 2 Tryz.f105 k (x0, (()), x7, x8, ())
/-! slices.ContainsFunc[[]int,int] -/
noncomputable def F60058 (k : Nat) (a0 : List Int) (a1_0 : List (Int × Bool × Bool × (List Int) × Int × Int × Int × Int × ByteArray × Unit)) : Option ((Bool × Unit) × (Unit × (Unit × Unit) × Unit)) := callF cx k 60058 (a0, (a1_0, ()), ())
/-! slices.IndexFunc[[]int,int] -/
noncomputable def F60106 (k : Nat) (a0 : List Int) (a1_0 : List (Int × Bool × Bool × (List Int) × Int × Int × Int × Int × ByteArray × Unit)) : Option ((Int × Unit) × (Unit × (Unit × Unit) × Unit)) := callF cx k 60106 (a0, (a1_0, ()), ())
noncomputable def F60106c2 (k : Nat) (x0 : List Int) (x1_0 : List (Int × Bool × Bool × (List Int) × Int × Int × Int × Int × ByteArray × Unit)) (x7 : Int) (x8 : Int) : Option ((Int × Unit) × (Unit × (Unit × Unit) × Unit)) := cutF cx 60106 2 Tryz.f106 k (x0, (x1_0, ()), x7, x8, ())
/-! slices.ContainsFunc[[]int,int] -/
noncomputable def F156058 (k : Nat) (a0 : List Int) : Option ((Bool × Unit) × (Unit × Unit × Unit)) := callF cx k 156058 (a0, (()), ())
/-! slices.IndexFunc[[]int,int] -/
noncomputable def F156106 (k : Nat) (a0 : List Int) : Option ((Int × Unit) × (Unit × Unit × Unit)) := callF cx k 156106 (a0, (()), ())
noncomputable def F156106c2 (k : Nat) (x0 : List Int) (x7 : Int) (x8 : Int) : Option ((Int × Unit) × (Unit × Unit × Unit)) := cutF cx 156106 2 Tryz.f106 k (x0, (()), x7, x8, ())
/-! (loop.example/jetton/impl.limbs).div -/
noncomputable def F1018165 (k : Nat) (a0 : Int) (a1 : Int) (a2_0 : List Int) (a3_0 : List Int) (a4_0 : List Int) : Option ((Unit) × (Unit × Unit × ((List Int) × Unit) × ((List Int) × Unit) × ((List Int) × Unit) × Unit)) := roundF cx 1018165 Tryz.f165 k (a0, a1, (a2_0, ()), (a3_0, ()), (a4_0, ()), ())
noncomputable def F1018165c8 (k : Nat) (x3_0 : List Int) (x6_0 : List Int) (x7_0 : List Int) (x8 : Int) (x10 : Int) (x11 : Int) : Option ((Unit) × (Unit × Unit × ((List Int) × Unit) × ((List Int) × Unit) × ((List Int) × Unit) × Unit)) := cutF cx 1018165 8 Tryz.f165 k ((x3_0, ()), (x6_0, ()), (x7_0, ()), x8, x10, x11, ())
theorem F5_eq (k : Nat) (a0 : List Int) : F5 (k + 2) a0 =
    if (decide ((a0.length : Int) > (1048576 : Int))) = true then some ((true, ()), ((), ())) else (F19 k a0).bind fun r1 => (F20 k r1.1.1 r1.1.2.1 r1.1.2.2.1 r1.1.2.2.2.1).bind fun r2 => (F21 k r1.1.1 r1.1.2.1 r1.1.2.2.1 r1.1.2.2.2.1).bind fun r3 => if (r2.1.1 != r3.1.1) = true then (F21 k r1.1.1 r1.1.2.1 r1.1.2.2.1 r1.1.2.2.2.1).bind fun r4 => some (((r2.1.1 == r4.1.1), ()), ((), ())) else if (r2.1.1 == (2 : Int)) = true then (F21 k r1.1.1 r1.1.2.1 r1.1.2.2.1 r1.1.2.2.2.1).bind fun r5 => some (((r2.1.1 == r5.1.1), ()), ((), ())) else if (decide ((r1.1.2.2.1.length : Int) > (2 : Int))) = true then (F21 k r1.1.1 r1.1.2.1 r1.1.2.2.1 r1.1.2.2.2.1).bind fun r6 => some (((r2.1.1 == r6.1.1), ()), ((), ())) else F5c10 k r1.1.1 r1.1.2.1 r1.1.2.2.1 r1.1.2.2.2.1 r2.1.1 ([] : List (Int × Bool × Bool × (List Int) × Int × Int × Int × Int × ByteArray × Unit)) ([] : List (Int × Bool × Bool × (List Int) × Int × Int × Int × Int × ByteArray × Unit)) (0 : Int) := by kernel_rfl
theorem F5c10_eq (k : Nat) (x3 : List (Int × Bool × Bool × (List Int) × Int × Int × Int × Int × ByteArray × Unit)) (x4 : List (Int × Bool × Bool × (List Int) × Int × Int × Int × Int × ByteArray × Unit)) (x5 : List Int) (x6 : List Bool) (x7 : Int) (x8 : List (Int × Bool × Bool × (List Int) × Int × Int × Int × Int × ByteArray × Unit)) (x9 : List (Int × Bool × Bool × (List Int) × Int × Int × Int × Int × ByteArray × Unit)) (x10 : Int) : F5c10 (k + 1) x3 x4 x5 x6 x7 x8 x9 x10 =
    if (decide (x10 < (x5.length : Int))) = true then if (decide (0 ≤ x10)) = true then (x5[x10.toNat]?).bind fun y7 => if (decide (0 ≤ y7)) = true then (x3[y7.toNat]?).bind fun y8 => if (decide (x8.length + [(y8.1, (y8.2.1, (y8.2.2.1, (y8.2.2.2.1, (y8.2.2.2.2.1, (y8.2.2.2.2.2.1, (y8.2.2.2.2.2.2.1, (y8.2.2.2.2.2.2.2.1, (y8.2.2.2.2.2.2.2.2.1, ())))))))))].length ≤ 1466015503701)) = true then if (decide (0 ≤ x10)) = true then (x5[x10.toNat]?).bind fun y9 => if (decide (0 ≤ y9)) = true then (x4[y9.toNat]?).bind fun y10 => if (decide (x9.length + [(y10.1, (y10.2.1, (y10.2.2.1, (y10.2.2.2.1, (y10.2.2.2.2.1, (y10.2.2.2.2.2.1, (y10.2.2.2.2.2.2.1, (y10.2.2.2.2.2.2.2.1, (y10.2.2.2.2.2.2.2.2.1, ())))))))))].length ≤ 1466015503701)) = true then F5c10 k x3 x4 x5 x6 x7 (x8 ++ [(y8.1, (y8.2.1, (y8.2.2.1, (y8.2.2.2.1, (y8.2.2.2.2.1, (y8.2.2.2.2.2.1, (y8.2.2.2.2.2.2.1, (y8.2.2.2.2.2.2.2.1, (y8.2.2.2.2.2.2.2.2.1, ())))))))))]) (x9 ++ [(y10.1, (y10.2.1, (y10.2.2.1, (y10.2.2.2.1, (y10.2.2.2.2.1, (y10.2.2.2.2.2.1, (y10.2.2.2.2.2.2.1, (y10.2.2.2.2.2.2.2.1, (y10.2.2.2.2.2.2.2.2.1, ())))))))))]) (IntKind.i64.wrap (x10 + (1 : Int))) else none else none else none else none else none else none else (F22 k x8 x6).bind fun r11 => (F22 k x9 x6).bind fun r12 => (F12 k r11.1.1 r12.1.1).bind fun r13 => if (r13.1.1 == x7) = true then (F20 k x4 x3 x5 x6).bind fun r14 => some (((r14.1.1 == (IntKind.i64.wrap (0 - x7))), ()), ((), ())) else some ((false, ()), ((), ())) := by kernel_rfl
theorem F6_eq (k : Nat) (a0_0 : Int) (a0_1 : Bool) (a0_2 : Bool) (a0_3 : List Int) (a0_4 : Int) (a0_5 : Int) (a0_6 : Int) (a0_7 : Int) (a0_8 : ByteArray) (a1 : Bool) : F6 (k + 2) a0_0 a0_1 a0_2 a0_3 a0_4 a0_5 a0_6 a0_7 a0_8 a1 =
    (F23 k a0_0 a0_1 a0_2 a0_3 a0_4 a0_5 a0_6 a0_7 a0_8 (1048576 : Int)).bind fun r1 => if (decide (r1.1.1 < (0 : Int))) = true then some ((true, ()), (((), (), (), (), (), (), (), (), (), ()), (), ())) else (F25 k a0_0 a0_1 a0_2 a0_3 a0_4 a0_5 a0_6 a0_7 a0_8).bind fun r2 => (F24 k r2.1.1.1 r2.1.1.2.1 r2.1.1.2.2.1 r2.1.1.2.2.2.1 r2.1.1.2.2.2.2.1 r2.1.1.2.2.2.2.2.1 r2.1.1.2.2.2.2.2.2.1 r2.1.1.2.2.2.2.2.2.2.1 r2.1.1.2.2.2.2.2.2.2.2.1 a1).bind fun r3 => (F25 k a0_0 a0_1 a0_2 a0_3 a0_4 a0_5 a0_6 a0_7 a0_8).bind fun r4 => (F13 k r4.1.1.1 r4.1.1.2.1 r4.1.1.2.2.1 r4.1.1.2.2.2.1 r4.1.1.2.2.2.2.1 r4.1.1.2.2.2.2.2.1 r4.1.1.2.2.2.2.2.2.1 r4.1.1.2.2.2.2.2.2.2.1 r4.1.1.2.2.2.2.2.2.2.2.1 a1).bind fun r5 => if (!(r5.1.1.toList == r3.1.1.toList)) = true then some ((false, ()), (((), (), (), (), (), (), (), (), (), ()), (), ())) else (F25 k a0_0 a0_1 a0_2 a0_3 a0_4 a0_5 a0_6 a0_7 a0_8).bind fun r6 => (F16 k r4.1.1.1 r4.1.1.2.1 r4.1.1.2.2.1 r4.1.1.2.2.2.1 r4.1.1.2.2.2.2.1 r4.1.1.2.2.2.2.2.1 r4.1.1.2.2.2.2.2.2.1 r4.1.1.2.2.2.2.2.2.2.1 r4.1.1.2.2.2.2.2.2.2.2.1 r6.1.1.1 r6.1.1.2.1 r6.1.1.2.2.1 r6.1.1.2.2.2.1 r6.1.1.2.2.2.2.1 r6.1.1.2.2.2.2.2.1 r6.1.1.2.2.2.2.2.2.1 r6.1.1.2.2.2.2.2.2.2.1 r6.1.1.2.2.2.2.2.2.2.2.1).bind fun r7 => if (!r7.1.1) = true then some ((false, ()), (((), (), (), (), (), (), (), (), (), ()), (), ())) else some ((true, ()), (((), (), (), (), (), (), (), (), (), ()), (), ())) := by kernel_rfl
theorem F12_eq (k : Nat) (a0 : ByteArray) (a1 : ByteArray) : F12 (k + 2) a0 a1 =
    if (Op.bytesLess a0.toList a1.toList) = true then some (((-1 : Int), ()), ((), (), ())) else if (!(Op.bytesLess a0.toList a1.toList || a0.toList == a1.toList)) = true then some (((1 : Int), ()), ((), (), ())) else some (((0 : Int), ()), ((), (), ())) := by kernel_rfl
theorem F13_eq (k : Nat) (a0_0 : Int) (a0_1 : Bool) (a0_2 : Bool) (a0_3 : List Int) (a0_4 : Int) (a0_5 : Int) (a0_6 : Int) (a0_7 : Int) (a0_8 : ByteArray) (a1 : Bool) : F13 (k + 2) a0_0 a0_1 a0_2 a0_3 a0_4 a0_5 a0_6 a0_7 a0_8 a1 =
    (F33 k a0_0 a0_1 a0_2 a0_3 a0_4 a0_5 a0_6 a0_7 a0_8).bind fun r1 => if (!r1.1.1) = true then some (((⟨#[]⟩ : ByteArray), ()), (((), (), (), (), (), (), (), (), (), ()), (), ())) else (F37 k a0_0 a0_1 a0_2 a0_3 a0_4 a0_5 a0_6 a0_7 a0_8 a1).bind fun r2 => some (((bytesOf r2.1.1), ()), (((), (), (), (), (), (), (), (), (), ()), (), ())) := by kernel_rfl
theorem F16_eq (k : Nat) (a0_0 : Int) (a0_1 : Bool) (a0_2 : Bool) (a0_3 : List Int) (a0_4 : Int) (a0_5 : Int) (a0_6 : Int) (a0_7 : Int) (a0_8 : ByteArray) (a1_0 : Int) (a1_1 : Bool) (a1_2 : Bool) (a1_3 : List Int) (a1_4 : Int) (a1_5 : Int) (a1_6 : Int) (a1_7 : Int) (a1_8 : ByteArray) : F16 (k + 2) a0_0 a0_1 a0_2 a0_3 a0_4 a0_5 a0_6 a0_7 a0_8 a1_0 a1_1 a1_2 a1_3 a1_4 a1_5 a1_6 a1_7 a1_8 =
    if (a0_0 != a1_0) = true then some ((false, ()), (((), (), (), (), (), (), (), (), (), ()), ((), (), (), (), (), (), (), (), (), ()), ())) else if (!(a0_1 == a1_1)) = true then some ((false, ()), (((), (), (), (), (), (), (), (), (), ()), ((), (), (), (), (), (), (), (), (), ()), ())) else (F45 k a0_2 a0_3 a0_4 a1_2 a1_3 a1_4).bind fun r1 => if (!r1.1.1) = true then some ((false, ()), (((), (), (), (), (), (), (), (), (), ()), ((), (), (), (), (), (), (), (), (), ()), ())) else if (a0_5 != a1_5) = true then some ((false, ()), (((), (), (), (), (), (), (), (), (), ()), ((), (), (), (), (), (), (), (), (), ()), ())) else (F46 k a0_6 a0_7 a1_6 a1_7).bind fun r2 => if (!r2.1.1) = true then some ((false, ()), (((), (), (), (), (), (), (), (), (), ()), ((), (), (), (), (), (), (), (), (), ()), ())) else if (!(a0_8.toList == a1_8.toList)) = true then some ((false, ()), (((), (), (), (), (), (), (), (), (), ()), ((), (), (), (), (), (), (), (), (), ()), ())) else some ((true, ()), (((), (), (), (), (), (), (), (), (), ()), ((), (), (), (), (), (), (), (), (), ()), ())) := by kernel_rfl
theorem F19_eq (k : Nat) (a0 : List Int) : F19 (k + 2) a0 =
    (F49 k a0).bind fun r1 => (F50 k r1.1.1.1 r1.1.1.2.1).bind fun r2 => (F51 k r2.2.1.1 r2.2.1.2.1 r2.1.1).bind fun r3 => (F51 k r3.2.1.1 r3.2.1.2.1 r2.1.1).bind fun r4 => (F52 k r4.2.1.1 r4.2.1.2.1 (3 : Int)).bind fun r5 => if (r5.1.1 == (0 : Int)) = true then if (decide (0 ≤ (0 : Int)) && decide ((0 : Int) < (r3.1.1.length : Int))) = true then (r3.1.1[0]?).bind fun y6 => if (decide (0 ≤ (0 : Int)) && decide ((0 : Int) < (r4.1.1.length : Int))) = true then (r4.1.1[0]?).bind fun y7 => F19c7 k r5.2.1.1 r5.2.1.2.1 r2.1.1 r3.1.1 (r4.1.1.set 0 (y6.1, (y6.2.1, (y6.2.2.1, (y6.2.2.2.1, (y6.2.2.2.2.1, (y6.2.2.2.2.2.1, (y6.2.2.2.2.2.2.1, (y6.2.2.2.2.2.2.2.1, (y6.2.2.2.2.2.2.2.2.1, ())))))))))) else none else none else F19c7 k r5.2.1.1 r5.2.1.2.1 r2.1.1 r3.1.1 r4.1.1 := by kernel_rfl
theorem F19c7_eq (k : Nat) (x6_0 : List Int) (x6_1 : Int) (x7 : List (Int × Int × Int × Unit)) (x8 : List (Int × Bool × Bool × (List Int) × Int × Int × Int × Int × ByteArray × Unit)) (x9 : List (Int × Bool × Bool × (List Int) × Int × Int × Int × Int × ByteArray × Unit)) : F19c7 (k + 1) x6_0 x6_1 x7 x8 x9 =
    (F52 k x6_0 x6_1 (4 : Int)).bind fun r8 => F19c9 k r8.2.1.1 r8.2.1.2.1 x7 x8 x9 ([] : List Int) r8.1.1 := by kernel_rfl
theorem F19c9_eq (k : Nat) (x6_0 : List Int) (x6_1 : Int) (x7 : List (Int × Int × Int × Unit)) (x8 : List (Int × Bool × Bool × (List Int) × Int × Int × Int × Int × ByteArray × Unit)) (x9 : List (Int × Bool × Bool × (List Int) × Int × Int × Int × Int × ByteArray × Unit)) (x10 : List Int) (x11 : Int) : F19c9 (k + 1) x6_0 x6_1 x7 x8 x9 x10 x11 =
    if (decide (x11 > (0 : Int))) = true then (F52 k x6_0 x6_1 (x7.length : Int)).bind fun r9 => if (decide (x10.length + [r9.1.1].length ≤ 17592186044416)) = true then F19c9 k r9.2.1.1 r9.2.1.2.1 x7 x8 x9 (x10 ++ [r9.1.1]) (IntKind.i64.wrap (x11 - (1 : Int))) else none else (F53 k x6_0 x6_1 (x10.length : Int)).bind fun r10 => (F52 k r10.2.1.1 r10.2.1.2.1 (16 : Int)).bind fun r11 => if (r11.1.1 == (0 : Int)) = true then (F54 k r11.2.1.1 r11.2.1.2.1 [(-1 : Int), (x7.length : Int)]).bind fun r12 => if (decide (x10.length + [r12.1.1].length ≤ 17592186044416)) = true then if (decide (r10.1.1.length + [true].length ≤ 140737488355328)) = true then some ((x8, x9, (x10 ++ [r12.1.1]), (r10.1.1 ++ [true]), ()), ((), ())) else none else none else if (r11.1.1 == (1 : Int)) = true then if (decide (0 ≤ (1 : Int)) && decide ((1 : Int) ≤ (x9.length : Int))) = true then some ((x8, (slices x9 1 x9.length), x10, r10.1.1, ()), ((), ())) else none else if (r11.1.1 == (2 : Int)) = true then (F55 k r11.2.1.1 r11.2.1.2.1).bind fun r13 => if (decide (0 ≤ (0 : Int)) && decide ((0 : Int) < (x8.length : Int))) = true then (x8[0]?).bind fun y14 => F19c20 k (x8.set 0 (r13.1.1.1, (r13.1.1.2.1, (r13.1.1.2.2.1, (r13.1.1.2.2.2.1, (r13.1.1.2.2.2.2.1, (r13.1.1.2.2.2.2.2.1, (r13.1.1.2.2.2.2.2.2.1, (r13.1.1.2.2.2.2.2.2.2.1, (r13.1.1.2.2.2.2.2.2.2.2.1, ())))))))))) x9 x10 r10.1.1 else none else F19c20 k x8 x9 x10 r10.1.1 := by kernel_rfl
theorem F19c20_eq (k : Nat) (x8 : List (Int × Bool × Bool × (List Int) × Int × Int × Int × Int × ByteArray × Unit)) (x9 : List (Int × Bool × Bool × (List Int) × Int × Int × Int × Int × ByteArray × Unit)) (x10 : List Int) (x12 : List Bool) : F19c20 (k + 1) x8 x9 x10 x12 =
    some ((x8, x9, x10, x12, ()), ((), ())) := by kernel_rfl
theorem F20_eq (k : Nat) (a0 : List (Int × Bool × Bool × (List Int) × Int × Int × Int × Int × ByteArray × Unit)) (a1 : List (Int × Bool × Bool × (List Int) × Int × Int × Int × Int × ByteArray × Unit)) (a2 : List Int) (a3 : List Bool) : F20 (k + 2) a0 a1 a2 a3 =
    if ((a0.length : Int) != (a1.length : Int)) = true then some (((2 : Int), ()), ((), (), (), (), ())) else if ((a2.length : Int) != (a3.length : Int)) = true then some (((2 : Int), ()), ((), (), (), (), ())) else (F57057 k a0).bind fun r1 => if r1.1.1 = true then some (((2 : Int), ()), ((), (), (), (), ())) else (F57057 k a1).bind fun r2 => if r2.1.1 = true then some (((2 : Int), ()), ((), (), (), (), ())) else (F60058 k a2 a0).bind fun r3 => if r3.1.1 = true then some (((2 : Int), ()), ((), (), (), (), ())) else (F60 k a0 a1 a2 a3).bind fun r4 => some ((r4.1.1, ()), ((), (), (), (), ())) := by kernel_rfl
theorem F21_eq (k : Nat) (a0 : List (Int × Bool × Bool × (List Int) × Int × Int × Int × Int × ByteArray × Unit)) (a1 : List (Int × Bool × Bool × (List Int) × Int × Int × Int × Int × ByteArray × Unit)) (a2 : List Int) (a3 : List Bool) : F21 (k + 2) a0 a1 a2 a3 =
    (F61 k a0).bind fun r1 => if (!r1.1.1) = true then some (((2 : Int), ()), ((), (), (), (), ())) else (F61 k a1).bind fun r2 => if (!r2.1.1) = true then some (((2 : Int), ()), ((), (), (), (), ())) else if ((a0.length : Int) != (a1.length : Int)) = true then some (((2 : Int), ()), ((), (), (), (), ())) else (F62 k a2 a3 (a0.length : Int)).bind fun r3 => if (!r3.1.1) = true then some (((2 : Int), ()), ((), (), (), (), ())) else (F63 k a0 a1 a2 a3).bind fun r4 => some ((r4.1.1, ()), ((), (), (), (), ())) := by kernel_rfl
theorem F22_eq (k : Nat) (a0 : List (Int × Bool × Bool × (List Int) × Int × Int × Int × Int × ByteArray × Unit)) (a1 : List Bool) : F22 (k + 2) a0 a1 =
    if (decide ((a0.length : Int) > (2 : Int))) = true then some (((⟨#[]⟩ : ByteArray), ()), ((), (), ())) else if ((a0.length : Int) != (a1.length : Int)) = true then some (((⟨#[]⟩ : ByteArray), ()), ((), (), ())) else F22c4 k a0 a1 a0 (a0.length : Int) (0 : Int) := by kernel_rfl
theorem F22c4_eq (k : Nat) (x0 : List (Int × Bool × Bool × (List Int) × Int × Int × Int × Int × ByteArray × Unit)) (x1 : List Bool) (x17 : List (Int × Bool × Bool × (List Int) × Int × Int × Int × Int × ByteArray × Unit)) (x18 : Int) (x19 : Int) : F22c4 (k + 1) x0 x1 x17 x18 x19 =
    if (decide (x19 < x18)) = true then if (decide (0 ≤ x19)) = true then (x17[x19.toNat]?).bind fun y1 => (F33 k y1.1 y1.2.1 y1.2.2.1 y1.2.2.2.1 y1.2.2.2.2.1 y1.2.2.2.2.2.1 y1.2.2.2.2.2.2.1 y1.2.2.2.2.2.2.2.1 y1.2.2.2.2.2.2.2.2.1).bind fun r2 => if (!r2.1.1) = true then some (((⟨#[]⟩ : ByteArray), ()), ((), (), ())) else F22c4 k x0 x1 x17 x18 (IntKind.i64.wrap (x19 + (1 : Int))) else none else (F64 k x0 x1).bind fun r3 => some ((r3.1.1, ()), ((), (), ())) := by kernel_rfl
theorem F23_eq (k : Nat) (a0_0 : Int) (a0_1 : Bool) (a0_2 : Bool) (a0_3 : List Int) (a0_4 : Int) (a0_5 : Int) (a0_6 : Int) (a0_7 : Int) (a0_8 : ByteArray) (a1 : Int) : F23 (k + 2) a0_0 a0_1 a0_2 a0_3 a0_4 a0_5 a0_6 a0_7 a0_8 a1 =
    (F65 k a0_2 a0_3 a0_4 a1).bind fun r1 => if (decide (r1.1.1 < (0 : Int))) = true then some (((-1 : Int), ()), (((), (), (), (), (), (), (), (), (), ()), (), ())) else if (decide ((IntKind.i64.wrap (r1.1.1 - (a0_8.size : Int))) < (0 : Int))) = true then some (((-1 : Int), ()), (((), (), (), (), (), (), (), (), (), ()), (), ())) else some (((IntKind.i64.wrap (r1.1.1 - (a0_8.size : Int))), ()), (((), (), (), (), (), (), (), (), (), ()), (), ())) := by kernel_rfl
theorem F24_eq (k : Nat) (a0_0 : Int) (a0_1 : Bool) (a0_2 : Bool) (a0_3 : List Int) (a0_4 : Int) (a0_5 : Int) (a0_6 : Int) (a0_7 : Int) (a0_8 : ByteArray) (a1 : Bool) : F24 (k + 2) a0_0 a0_1 a0_2 a0_3 a0_4 a0_5 a0_6 a0_7 a0_8 a1 =
    (F35 k a0_0 a0_1 a0_2 a0_3 a0_4 a0_5 a0_6 a0_7 a0_8).bind fun r1 => if (!r1.1.1) = true then some (((⟨#[]⟩ : ByteArray), ()), (((), (), (), (), (), (), (), (), (), ()), (), ())) else (F66 k a0_0 a0_1 a0_2 a0_3 a0_4 a0_5 a0_6 a0_7 a0_8 a1).bind fun r2 => some ((r2.1.1, ()), (((), (), (), (), (), (), (), (), (), ()), (), ())) := by kernel_rfl
theorem F25_eq (k : Nat) (a0_0 : Int) (a0_1 : Bool) (a0_2 : Bool) (a0_3 : List Int) (a0_4 : Int) (a0_5 : Int) (a0_6 : Int) (a0_7 : Int) (a0_8 : ByteArray) : F25 (k + 2) a0_0 a0_1 a0_2 a0_3 a0_4 a0_5 a0_6 a0_7 a0_8 =
    (F67 k a0_2 a0_3 a0_4).bind fun r1 => (F68 k a0_6 a0_7).bind fun r2 => some (((a0_0, a0_1, r1.1.1.1, r1.1.1.2.1, r1.1.1.2.2.1, a0_5, r2.1.1.1, r2.1.1.2.1, a0_8, ()), ()), (((), (), (), (), (), (), (), (), (), ()), ())) := by kernel_rfl
theorem F33_eq (k : Nat) (a0_0 : Int) (a0_1 : Bool) (a0_2 : Bool) (a0_3 : List Int) (a0_4 : Int) (a0_5 : Int) (a0_6 : Int) (a0_7 : Int) (a0_8 : ByteArray) : F33 (k + 2) a0_0 a0_1 a0_2 a0_3 a0_4 a0_5 a0_6 a0_7 a0_8 =
    if (a0_0 == (0 : Int)) = true then F33c21 k a0_0 a0_1 a0_2 a0_3 a0_4 a0_5 a0_6 a0_7 a0_8 true else if (a0_0 == (1 : Int)) = true then F33c21 k a0_0 false a0_2 a0_3 a0_4 a0_5 a0_6 a0_7 a0_8 true else if (a0_0 == (2 : Int)) = true then (F71 k a0_2 a0_3 a0_4).bind fun r1 => F33c21 k a0_0 a0_1 false ([] : List Int) (0 : Int) a0_5 a0_6 a0_7 a0_8 r1.1.1 else if (a0_0 == (3 : Int)) = true then (F72 k a0_5).bind fun r2 => F33c21 k a0_0 a0_1 a0_2 a0_3 a0_4 (0 : Int) a0_6 a0_7 a0_8 r2.1.1 else if (a0_0 == (4 : Int)) = true then (F73 k a0_6 a0_7).bind fun r3 => F33c21 k a0_0 a0_1 a0_2 a0_3 a0_4 a0_5 (0 : Int) (0 : Int) a0_8 r3.1.1 else if (a0_0 == (5 : Int)) = true then F33c17 k a0_0 a0_1 a0_2 a0_3 a0_4 a0_5 a0_6 a0_7 a0_8 a0_0 a0_1 a0_2 a0_3 a0_4 a0_5 a0_6 a0_7 (⟨#[]⟩ : ByteArray) (decide ((a0_8.size : Int) ≤ (12 : Int))) (a0_8.size : Int) (0 : Int) else F33c21 k a0_0 a0_1 a0_2 a0_3 a0_4 a0_5 a0_6 a0_7 a0_8 false := by kernel_rfl
theorem F33c21_eq (k : Nat) (x3_0 : Int) (x3_1 : Bool) (x3_2 : Bool) (x3_3 : List Int) (x3_4 : Int) (x3_5 : Int) (x3_6 : Int) (x3_7 : Int) (x3_8 : ByteArray) (x4 : Bool) : F33c21 (k + 1) x3_0 x3_1 x3_2 x3_3 x3_4 x3_5 x3_6 x3_7 x3_8 x4 =
    if x4 = true then if (!x3_1) = true then (F74 k x3_2 x3_3 x3_4).bind fun r4 => if r4.1.1 = true then if (x3_5 == (0 : Int)) = true then if (x3_6 == (0 : Int) && (x3_7 == (0 : Int) && true)) = true then some (((x3_8.toList == (⟨#[]⟩ : ByteArray).toList), ()), (((), (), (), (), (), (), (), (), (), ()), ())) else some ((false, ()), (((), (), (), (), (), (), (), (), (), ()), ())) else some ((false, ()), (((), (), (), (), (), (), (), (), (), ()), ())) else some ((false, ()), (((), (), (), (), (), (), (), (), (), ()), ())) else some ((false, ()), (((), (), (), (), (), (), (), (), (), ()), ())) else some ((false, ()), (((), (), (), (), (), (), (), (), (), ()), ())) := by kernel_rfl
theorem F33c17_eq (k : Nat) (x1_0 : Int) (x1_1 : Bool) (x1_2 : Bool) (x1_3 : List Int) (x1_4 : Int) (x1_5 : Int) (x1_6 : Int) (x1_7 : Int) (x1_8 : ByteArray) (x3_0 : Int) (x3_1 : Bool) (x3_2 : Bool) (x3_3 : List Int) (x3_4 : Int) (x3_5 : Int) (x3_6 : Int) (x3_7 : Int) (x3_8 : ByteArray) (x4 : Bool) (x43 : Int) (x44 : Int) : F33c17 (k + 1) x1_0 x1_1 x1_2 x1_3 x1_4 x1_5 x1_6 x1_7 x1_8 x3_0 x3_1 x3_2 x3_3 x3_4 x3_5 x3_6 x3_7 x3_8 x4 x43 x44 =
    if (decide (x44 < x43)) = true then if x4 = true then if (decide (0 ≤ x44)) = true then (x1_8[x44.toNat]?).bind fun u5 => (F40 k (IntKind.i64.wrap (u5.toNat : Int)) (32 : Int) (126 : Int)).bind fun r6 => F33c17 k x1_0 x1_1 x1_2 x1_3 x1_4 x1_5 x1_6 x1_7 x1_8 x3_0 x3_1 x3_2 x3_3 x3_4 x3_5 x3_6 x3_7 x3_8 r6.1.1 x43 (IntKind.i64.wrap (x44 + (1 : Int))) else none else F33c17 k x1_0 x1_1 x1_2 x1_3 x1_4 x1_5 x1_6 x1_7 x1_8 x3_0 x3_1 x3_2 x3_3 x3_4 x3_5 x3_6 x3_7 x3_8 false x43 (IntKind.i64.wrap (x44 + (1 : Int))) else F33c21 k x3_0 x3_1 x3_2 x3_3 x3_4 x3_5 x3_6 x3_7 x3_8 x4 := by kernel_rfl
theorem F34_eq (k : Nat) (a0_0 : Int) (a0_1 : Bool) (a0_2 : Bool) (a0_3 : List Int) (a0_4 : Int) (a0_5 : Int) (a0_6 : Int) (a0_7 : Int) (a0_8 : ByteArray) (a1_0 : Int) (a1_1 : Bool) (a1_2 : Bool) (a1_3 : List Int) (a1_4 : Int) (a1_5 : Int) (a1_6 : Int) (a1_7 : Int) (a1_8 : ByteArray) : F34 (k + 2) a0_0 a0_1 a0_2 a0_3 a0_4 a0_5 a0_6 a0_7 a0_8 a1_0 a1_1 a1_2 a1_3 a1_4 a1_5 a1_6 a1_7 a1_8 =
    if (a0_0 != a1_0) = true then (F75 k a0_0 a1_0).bind fun r1 => some ((r1.1.1, ()), (((), (), (), (), (), (), (), (), (), ()), ((), (), (), (), (), (), (), (), (), ()), ())) else (F76 k a0_0 a0_1 a0_2 a0_3 a0_4 a0_5 a0_6 a0_7 a0_8 a1_0 a1_1 a1_2 a1_3 a1_4 a1_5 a1_6 a1_7 a1_8).bind fun r2 => some ((r2.1.1, ()), (((), (), (), (), (), (), (), (), (), ()), ((), (), (), (), (), (), (), (), (), ()), ())) := by kernel_rfl
theorem F35_eq (k : Nat) (a0_0 : Int) (a0_1 : Bool) (a0_2 : Bool) (a0_3 : List Int) (a0_4 : Int) (a0_5 : Int) (a0_6 : Int) (a0_7 : Int) (a0_8 : ByteArray) : F35 (k + 2) a0_0 a0_1 a0_2 a0_3 a0_4 a0_5 a0_6 a0_7 a0_8 =
    (F77 k a0_0 (0 : Int) (5 : Int)).bind fun r1 => if (!r1.1.1) = true then some ((false, ()), (((), (), (), (), (), (), (), (), (), ()), ())) else (F78 k a0_0 a0_1 a0_2 a0_3 a0_4 a0_5 a0_6 a0_7 a0_8).bind fun r2 => if (!r2.1.1) = true then some ((false, ()), (((), (), (), (), (), (), (), (), (), ()), ())) else if (a0_0 == (2 : Int)) = true then (F79 k a0_2 a0_3 a0_4).bind fun r3 => some ((r3.1.1, ()), (((), (), (), (), (), (), (), (), (), ()), ())) else if (a0_0 == (3 : Int)) = true then (F80 k a0_5).bind fun r4 => some ((r4.1.1, ()), (((), (), (), (), (), (), (), (), (), ()), ())) else if (a0_0 == (4 : Int)) = true then (F81 k a0_6 a0_7).bind fun r5 => some ((r5.1.1, ()), (((), (), (), (), (), (), (), (), (), ()), ())) else (F82 k a0_8).bind fun r6 => some ((r6.1.1, ()), (((), (), (), (), (), (), (), (), (), ()), ())) := by kernel_rfl
theorem F36_eq (k : Nat) (a0_0 : Int) (a0_1 : Bool) (a0_2 : Bool) (a0_3 : List Int) (a0_4 : Int) (a0_5 : Int) (a0_6 : Int) (a0_7 : Int) (a0_8 : ByteArray) (a1_0 : Int) (a1_1 : Bool) (a1_2 : Bool) (a1_3 : List Int) (a1_4 : Int) (a1_5 : Int) (a1_6 : Int) (a1_7 : Int) (a1_8 : ByteArray) : F36 (k + 2) a0_0 a0_1 a0_2 a0_3 a0_4 a0_5 a0_6 a0_7 a0_8 a1_0 a1_1 a1_2 a1_3 a1_4 a1_5 a1_6 a1_7 a1_8 =
    if (a0_0 != a1_0) = true then (F83 k a0_0 a1_0).bind fun r1 => some ((r1.1.1, ()), (((), (), (), (), (), (), (), (), (), ()), ((), (), (), (), (), (), (), (), (), ()), ())) else (F84 k a0_0 a0_1 a0_2 a0_3 a0_4 a0_5 a0_6 a0_7 a0_8 a1_0 a1_1 a1_2 a1_3 a1_4 a1_5 a1_6 a1_7 a1_8).bind fun r2 => some ((r2.1.1, ()), (((), (), (), (), (), (), (), (), (), ()), ((), (), (), (), (), (), (), (), (), ()), ())) := by kernel_rfl
theorem F37_eq (k : Nat) (a0_0 : Int) (a0_1 : Bool) (a0_2 : Bool) (a0_3 : List Int) (a0_4 : Int) (a0_5 : Int) (a0_6 : Int) (a0_7 : Int) (a0_8 : ByteArray) (a1 : Bool) : F37 (k + 2) a0_0 a0_1 a0_2 a0_3 a0_4 a0_5 a0_6 a0_7 a0_8 a1 =
    if (a0_0 == (1 : Int)) = true then (F85 k a0_1).bind fun r1 => if (decide ([(IntKind.u8.wrap (IntKind.i64.wrap (a0_0 + (1 : Int))))].length + [(IntKind.u8.wrap r1.1.1)].length ≤ 140737488355328)) = true then F37c13 k a1 ([(IntKind.u8.wrap (IntKind.i64.wrap (a0_0 + (1 : Int))))] ++ [(IntKind.u8.wrap r1.1.1)]) else none else if (a0_0 == (2 : Int)) = true then (F86 k a0_2 a0_3 a0_4).bind fun r2 => if (decide ([(IntKind.u8.wrap (IntKind.i64.wrap (a0_0 + (1 : Int))))].length + r2.1.1.length ≤ 140737488355328)) = true then F37c13 k a1 ([(IntKind.u8.wrap (IntKind.i64.wrap (a0_0 + (1 : Int))))] ++ r2.1.1) else none else if (a0_0 == (3 : Int)) = true then (F87 k a0_5).bind fun r3 => if (decide ([(IntKind.u8.wrap (IntKind.i64.wrap (a0_0 + (1 : Int))))].length + r3.1.1.length ≤ 140737488355328)) = true then F37c13 k a1 ([(IntKind.u8.wrap (IntKind.i64.wrap (a0_0 + (1 : Int))))] ++ r3.1.1) else none else if (a0_0 == (4 : Int)) = true then (F87 k (IntKind.i64.wrap (a0_6 + (120000 : Int)))).bind fun r4 => if (decide ([(IntKind.u8.wrap (IntKind.i64.wrap (a0_0 + (1 : Int))))].length + r4.1.1.length ≤ 140737488355328)) = true then (F87 k (IntKind.i64.wrap (a0_7 + (4000000 : Int)))).bind fun r5 => if (decide (([(IntKind.u8.wrap (IntKind.i64.wrap (a0_0 + (1 : Int))))] ++ r4.1.1).length + r5.1.1.length ≤ 140737488355328)) = true then F37c13 k a1 (([(IntKind.u8.wrap (IntKind.i64.wrap (a0_0 + (1 : Int))))] ++ r4.1.1) ++ r5.1.1) else none else none else if (a0_0 == (5 : Int)) = true then if (decide ([(IntKind.u8.wrap (IntKind.i64.wrap (a0_0 + (1 : Int))))].length + (a0_8.data.toList.map fun b => (b.toNat : Int)).length ≤ 140737488355328)) = true then if (decide (([(IntKind.u8.wrap (IntKind.i64.wrap (a0_0 + (1 : Int))))] ++ (a0_8.data.toList.map fun b => (b.toNat : Int))).length + [(0 : Int)].length ≤ 140737488355328)) = true then F37c13 k a1 (([(IntKind.u8.wrap (IntKind.i64.wrap (a0_0 + (1 : Int))))] ++ (a0_8.data.toList.map fun b => (b.toNat : Int))) ++ [(0 : Int)]) else none else none else F37c13 k a1 [(IntKind.u8.wrap (IntKind.i64.wrap (a0_0 + (1 : Int))))] := by kernel_rfl
theorem F37c13_eq (k : Nat) (x1 : Bool) (x5 : List Int) : F37c13 (k + 1) x1 x5 =
    if x1 = true then (F39 k x5).bind fun r6 => some ((r6.1.1, ()), (((), (), (), (), (), (), (), (), (), ()), (), ())) else some ((x5, ()), (((), (), (), (), (), (), (), (), (), ()), (), ())) := by kernel_rfl
theorem F39_eq (k : Nat) (a0 : List Int) : F39 (k + 2) a0 =
    if (decide (0 ≤ (a0.length : Int)) && decide ((a0.length : Int) ≤ (a0.length : Int)) && decide ((a0.length : Int) ≤ (140737488355328 : Int))) = true then F39c3 k (List.replicate (a0.length : Int).toNat (0 : Int)) a0 (a0.length : Int) (0 : Int) else none := by kernel_rfl
theorem F39c3_eq (k : Nat) (x3 : List Int) (x9 : List Int) (x10 : Int) (x11 : Int) : F39c3 (k + 1) x3 x9 x10 x11 =
    if (decide (x11 < x10)) = true then if (decide (0 ≤ x11)) = true then (x9[x11.toNat]?).bind fun y1 => if (decide (0 ≤ x11) && decide (x11 < (x3.length : Int))) = true then (x3[x11.toNat]?).bind fun y2 => F39c3 k (x3.set x11.toNat (IntKind.u8.wrap ((255 : Int) - y1))) x9 x10 (IntKind.i64.wrap (x11 + (1 : Int))) else none else none else some ((x3, ()), ((), ())) := by kernel_rfl
theorem F40_eq (k : Nat) (a0 : Int) (a1 : Int) (a2 : Int) : F40 (k + 2) a0 a1 a2 =
    if (decide (a0 ≥ a1)) = true then some ((decide (a0 ≤ a2), ()), ((), (), (), ())) else some ((false, ()), ((), (), (), ())) := by kernel_rfl
theorem F45_eq (k : Nat) (a0_0 : Bool) (a0_1 : List Int) (a0_2 : Int) (a1_0 : Bool) (a1_1 : List Int) (a1_2 : Int) : F45 (k + 2) a0_0 a0_1 a0_2 a1_0 a1_1 a1_2 =
    (F95 k a0_0 a0_1 a1_0 a1_1).bind fun r1 => if (!r1.1.1) = true then some ((false, ()), (((), (), (), ()), ((), (), (), ()), ())) else if (a0_2 != a1_2) = true then some ((false, ()), (((), (), (), ()), ((), (), (), ()), ())) else some ((true, ()), (((), (), (), ()), ((), (), (), ()), ())) := by kernel_rfl
theorem F46_eq (k : Nat) (a0_0 : Int) (a0_1 : Int) (a1_0 : Int) (a1_1 : Int) : F46 (k + 2) a0_0 a0_1 a1_0 a1_1 =
    if (a0_0 != a1_0) = true then some ((false, ()), (((), (), ()), ((), (), ()), ())) else if (a0_1 != a1_1) = true then some ((false, ()), (((), (), ()), ((), (), ()), ())) else some ((true, ()), (((), (), ()), ((), (), ()), ())) := by kernel_rfl
theorem F49_eq (k : Nat) (a0 : List Int) : F49 (k + 2) a0 =
    if (decide ((a0.length : Int) > (2000 : Int))) = true then if (decide (0 ≤ (2000 : Int)) && decide ((2000 : Int) ≤ (a0.length : Int))) = true then F49c3 k (slices a0 0 2000) else none else F49c3 k a0 := by kernel_rfl
theorem F49c3_eq (k : Nat) (x0 : List Int) : F49c3 (k + 1) x0 =
    some (((x0, (0 : Int), ()), ()), ((), ())) := by kernel_rfl
theorem F50_eq (k : Nat) (a0_0 : List Int) (a0_1 : Int) : F50 (k + 2) a0_0 a0_1 =
    (F52 k a0_0 a0_1 (4 : Int)).bind fun r1 => F50c3 k r1.2.1.1 r1.2.1.2.1 ([] : List (Int × Int × Int × Unit)) (IntKind.i64.wrap ((1 : Int) + r1.1.1)) := by kernel_rfl
theorem F50c3_eq (k : Nat) (x0_0 : List Int) (x0_1 : Int) (x3 : List (Int × Int × Int × Unit)) (x4 : Int) : F50c3 (k + 1) x0_0 x0_1 x3 x4 =
    if (decide (x4 > (0 : Int))) = true then (F98 k x0_0 x0_1).bind fun r2 => if (decide (x3.length + [(r2.1.1.1, (r2.1.1.2.1, (r2.1.1.2.2.1, ())))].length ≤ 5864062014805)) = true then F50c3 k r2.2.1.1 r2.2.1.2.1 (x3 ++ [(r2.1.1.1, (r2.1.1.2.1, (r2.1.1.2.2.1, ())))]) (IntKind.i64.wrap (x4 - (1 : Int))) else none else some ((x3, ()), ((x0_0, x0_1, ()), ())) := by kernel_rfl
theorem F51_eq (k : Nat) (a0_0 : List Int) (a0_1 : Int) (a1 : List (Int × Int × Int × Unit)) : F51 (k + 2) a0_0 a0_1 a1 =
    F51c3 k a0_0 a0_1 a1 ([] : List (Int × Bool × Bool × (List Int) × Int × Int × Int × Int × ByteArray × Unit)) (0 : Int) := by kernel_rfl
theorem F51c3_eq (k : Nat) (x0_0 : List Int) (x0_1 : Int) (x1 : List (Int × Int × Int × Unit)) (x5 : List (Int × Bool × Bool × (List Int) × Int × Int × Int × Int × ByteArray × Unit)) (x6 : Int) : F51c3 (k + 1) x0_0 x0_1 x1 x5 x6 =
    if (decide (x6 < (x1.length : Int))) = true then if (decide (0 ≤ x6)) = true then (x1[x6.toNat]?).bind fun y1 => (F99 k x0_0 x0_1 y1.1 y1.2.1 y1.2.2.1).bind fun r2 => if (decide (x5.length + [(r2.1.1.1, (r2.1.1.2.1, (r2.1.1.2.2.1, (r2.1.1.2.2.2.1, (r2.1.1.2.2.2.2.1, (r2.1.1.2.2.2.2.2.1, (r2.1.1.2.2.2.2.2.2.1, (r2.1.1.2.2.2.2.2.2.2.1, (r2.1.1.2.2.2.2.2.2.2.2.1, ())))))))))].length ≤ 1466015503701)) = true then F51c3 k r2.2.1.1 r2.2.1.2.1 x1 (x5 ++ [(r2.1.1.1, (r2.1.1.2.1, (r2.1.1.2.2.1, (r2.1.1.2.2.2.1, (r2.1.1.2.2.2.2.1, (r2.1.1.2.2.2.2.2.1, (r2.1.1.2.2.2.2.2.2.1, (r2.1.1.2.2.2.2.2.2.2.1, (r2.1.1.2.2.2.2.2.2.2.2.1, ())))))))))]) (IntKind.i64.wrap (x6 + (1 : Int))) else none else none else some ((x5, ()), ((x0_0, x0_1, ()), (), ())) := by kernel_rfl
theorem F52_eq (k : Nat) (a0_0 : List Int) (a0_1 : Int) (a1 : Int) : F52 (k + 2) a0_0 a0_1 a1 =
    if (decide (a1 < (1 : Int))) = true then some (((0 : Int), ()), ((a0_0, (IntKind.i64.wrap (a0_1 + (1 : Int))), ()), (), ())) else if ((a0_0.length : Int) == (0 : Int)) = true then some (((0 : Int), ()), ((a0_0, (IntKind.i64.wrap (a0_1 + (1 : Int))), ()), (), ())) else if (decide ((IntKind.i64.wrap ((IntKind.i64.wrap (a0_1 + (1 : Int))) - (1 : Int))) < (a0_0.length : Int))) = true then if (decide (0 ≤ (IntKind.i64.wrap ((IntKind.i64.wrap (a0_1 + (1 : Int))) - (1 : Int))))) = true then (a0_0[(IntKind.i64.wrap ((IntKind.i64.wrap (a0_1 + (1 : Int))) - (1 : Int))).toNat]?).bind fun y1 => if (!(a1 == 0)) = true then some ((((IntKind.i64.wrap y1).tmod a1), ()), ((a0_0, (IntKind.i64.wrap (a0_1 + (1 : Int))), ()), (), ())) else none else none else if (!((a0_0.length : Int) == 0)) = true then if (decide (0 ≤ ((IntKind.i64.wrap ((IntKind.i64.wrap (a0_1 + (1 : Int))) - (1 : Int))).tmod (a0_0.length : Int)))) = true then (a0_0[((IntKind.i64.wrap ((IntKind.i64.wrap (a0_1 + (1 : Int))) - (1 : Int))).tmod (a0_0.length : Int)).toNat]?).bind fun y2 => if (!((a0_0.length : Int) == 0)) = true then if (decide (0 ≤ ((IntKind.i64.wrap ((IntKind.i64.wrap ((IntKind.i64.wrap ((IntKind.i64.wrap (a0_1 + (1 : Int))) - (1 : Int))) * (7 : Int))) + (3 : Int))).tmod (a0_0.length : Int)))) = true then (a0_0[((IntKind.i64.wrap ((IntKind.i64.wrap ((IntKind.i64.wrap ((IntKind.i64.wrap (a0_1 + (1 : Int))) - (1 : Int))) * (7 : Int))) + (3 : Int))).tmod (a0_0.length : Int)).toNat]?).bind fun y3 => if (!((a0_0.length : Int) == 0)) = true then if (!(a1 == 0)) = true then some ((((IntKind.i64.wrap (((BitVec.ofInt IntKind.i64.bits (IntKind.i64.wrap ((IntKind.i64.wrap ((IntKind.i64.wrap ((IntKind.i64.wrap ((IntKind.i64.wrap y2) * (131 : Int))) + (IntKind.i64.wrap ((IntKind.i64.wrap y3) * (1117 : Int))))) + (IntKind.i64.wrap ((IntKind.i64.wrap ((IntKind.i64.wrap (a0_1 + (1 : Int))) - (1 : Int))) * (29 : Int))))) + (IntKind.i64.wrap ((IntKind.i64.wrap ((IntKind.i64.wrap ((IntKind.i64.wrap (a0_1 + (1 : Int))) - (1 : Int))).tdiv (a0_0.length : Int))) * (53 : Int))))) ^^^ BitVec.ofInt IntKind.i64.bits (IntKind.i64.wrap ((IntKind.i64.wrap ((IntKind.i64.wrap ((IntKind.i64.wrap ((IntKind.i64.wrap ((IntKind.i64.wrap y2) * (131 : Int))) + (IntKind.i64.wrap ((IntKind.i64.wrap y3) * (1117 : Int))))) + (IntKind.i64.wrap ((IntKind.i64.wrap ((IntKind.i64.wrap (a0_1 + (1 : Int))) - (1 : Int))) * (29 : Int))))) + (IntKind.i64.wrap ((IntKind.i64.wrap ((IntKind.i64.wrap ((IntKind.i64.wrap (a0_1 + (1 : Int))) - (1 : Int))).tdiv (a0_0.length : Int))) * (53 : Int))))).tdiv (64 : Int)))).toNat : Int))).tmod a1), ()), ((a0_0, (IntKind.i64.wrap (a0_1 + (1 : Int))), ()), (), ())) else none else none else none else none else none else none := by kernel_rfl
theorem F53_eq (k : Nat) (a0_0 : List Int) (a0_1 : Int) (a1 : Int) : F53 (k + 2) a0_0 a0_1 a1 =
    F53c2 k a0_0 a0_1 a1 ([] : List Bool) := by kernel_rfl
theorem F53c2_eq (k : Nat) (x0_0 : List Int) (x0_1 : Int) (x1 : Int) (x5 : List Bool) : F53c2 (k + 1) x0_0 x0_1 x1 x5 =
    if (decide ((x5.length : Int) < x1)) = true then (F52 k x0_0 x0_1 (2 : Int)).bind fun r1 => if (decide (x5.length + [(r1.1.1 == (0 : Int))].length ≤ 140737488355328)) = true then F53c2 k r1.2.1.1 r1.2.1.2.1 x1 (x5 ++ [(r1.1.1 == (0 : Int))]) else none else some ((x5, ()), ((x0_0, x0_1, ()), (), ())) := by kernel_rfl
theorem F54_eq (k : Nat) (a0_0 : List Int) (a0_1 : Int) (a1 : List Int) : F54 (k + 2) a0_0 a0_1 a1 =
    (F52 k a0_0 a0_1 (a1.length : Int)).bind fun r1 => if (decide (0 ≤ r1.1.1) && decide (r1.1.1 < (a1.length : Int))) = true then (a1[r1.1.1.toNat]?).bind fun y2 => some ((y2, ()), ((r1.2.1.1, r1.2.1.2.1, ()), (), ())) else none := by kernel_rfl
theorem F55_eq (k : Nat) (a0_0 : List Int) (a0_1 : Int) : F55 (k + 2) a0_0 a0_1 =
    (F100 k a0_0 a0_1).bind fun r1 => (F52 k r1.2.1.1 r1.2.1.2.1 (30 : Int)).bind fun r2 => if (r2.1.1 == (0 : Int)) = true then (F54 k r2.2.1.1 r2.2.1.2.1 [(-1 : Int), (6 : Int), (1 : Int), (2 : Int)]).bind fun r3 => F55c15 k r3.2.1.1 r3.2.1.2.1 (0 : Int) false false ([] : List Int) (0 : Int) (0 : Int) (0 : Int) (0 : Int) ByteArray.empty r3.1.1 r1.1.1.2.1 r1.1.1.2.2.1 r1.1.1.2.2.2.1 r1.1.1.2.2.2.2.1 r1.1.1.2.2.2.2.2.1 r1.1.1.2.2.2.2.2.2.1 r1.1.1.2.2.2.2.2.2.2.1 r1.1.1.2.2.2.2.2.2.2.2.1 else if (r2.1.1 == (1 : Int)) = true then (F101 k r2.2.1.1 r2.2.1.2.1 [(⟨#[116, 104, 105, 114, 116, 101, 101, 110, 32, 98, 121, 116, 101]⟩ : ByteArray), (⟨#[97, 10]⟩ : ByteArray), (⟨#[127]⟩ : ByteArray), (⟨#[120]⟩ : ByteArray)]).bind fun r4 => F55c15 k r4.2.1.1 r4.2.1.2.1 (0 : Int) false false ([] : List Int) (0 : Int) (0 : Int) (0 : Int) (0 : Int) ByteArray.empty r1.1.1.1 r1.1.1.2.1 r1.1.1.2.2.1 r1.1.1.2.2.2.1 r1.1.1.2.2.2.2.1 r1.1.1.2.2.2.2.2.1 r1.1.1.2.2.2.2.2.2.1 r1.1.1.2.2.2.2.2.2.2.1 r4.1.1 else if (r2.1.1 == (2 : Int)) = true then (F102 k r2.2.1.1 r2.2.1.2.1).bind fun r5 => F55c15 k r5.2.1.1 r5.2.1.2.1 (0 : Int) false false ([] : List Int) (0 : Int) (0 : Int) (0 : Int) (0 : Int) ByteArray.empty r1.1.1.1 r1.1.1.2.1 r5.1.1.1 r5.1.1.2.1 r5.1.1.2.2.1 r1.1.1.2.2.2.2.2.1 r1.1.1.2.2.2.2.2.2.1 r1.1.1.2.2.2.2.2.2.2.1 r1.1.1.2.2.2.2.2.2.2.2.1 else if (r2.1.1 == (3 : Int)) = true then (F103 k r2.2.1.1 r2.2.1.2.1).bind fun r6 => F55c15 k r6.2.1.1 r6.2.1.2.1 (0 : Int) false false ([] : List Int) (0 : Int) (0 : Int) (0 : Int) (0 : Int) ByteArray.empty r1.1.1.1 r1.1.1.2.1 r1.1.1.2.2.1 r1.1.1.2.2.2.1 r1.1.1.2.2.2.2.1 r6.1.1 r1.1.1.2.2.2.2.2.2.1 r1.1.1.2.2.2.2.2.2.2.1 r1.1.1.2.2.2.2.2.2.2.2.1 else if (r2.1.1 == (4 : Int)) = true then F55c15 k r2.2.1.1 r2.2.1.2.1 (0 : Int) false false ([] : List Int) (0 : Int) (0 : Int) (0 : Int) (0 : Int) ByteArray.empty r1.1.1.1 true r1.1.1.2.2.1 r1.1.1.2.2.2.1 r1.1.1.2.2.2.2.1 r1.1.1.2.2.2.2.2.1 r1.1.1.2.2.2.2.2.2.1 r1.1.1.2.2.2.2.2.2.2.1 r1.1.1.2.2.2.2.2.2.2.2.1 else if (r2.1.1 == (5 : Int)) = true then (F104 k r2.2.1.1 r2.2.1.2.1).bind fun r7 => F55c15 k r7.2.1.1 r7.2.1.2.1 (0 : Int) false false ([] : List Int) (0 : Int) (0 : Int) (0 : Int) (0 : Int) ByteArray.empty r1.1.1.1 r1.1.1.2.1 r1.1.1.2.2.1 r1.1.1.2.2.2.1 r1.1.1.2.2.2.2.1 r1.1.1.2.2.2.2.2.1 r7.1.1.1 r7.1.1.2.1 r1.1.1.2.2.2.2.2.2.2.2.1 else F55c15 k r2.2.1.1 r2.2.1.2.1 (0 : Int) false false ([] : List Int) (0 : Int) (0 : Int) (0 : Int) (0 : Int) ByteArray.empty r1.1.1.1 r1.1.1.2.1 r1.1.1.2.2.1 r1.1.1.2.2.2.1 r1.1.1.2.2.2.2.1 r1.1.1.2.2.2.2.2.1 r1.1.1.2.2.2.2.2.2.1 r1.1.1.2.2.2.2.2.2.2.1 r1.1.1.2.2.2.2.2.2.2.2.1 := by kernel_rfl
theorem F55c15_eq (k : Nat) (x0_0 : List Int) (x0_1 : Int) (x2_0 : Int) (x2_1 : Bool) (x2_2 : Bool) (x2_3 : List Int) (x2_4 : Int) (x2_5 : Int) (x2_6 : Int) (x2_7 : Int) (x2_8 : ByteArray) (x3_0 : Int) (x3_1 : Bool) (x3_2 : Bool) (x3_3 : List Int) (x3_4 : Int) (x3_5 : Int) (x3_6 : Int) (x3_7 : Int) (x3_8 : ByteArray) : F55c15 (k + 1) x0_0 x0_1 x2_0 x2_1 x2_2 x2_3 x2_4 x2_5 x2_6 x2_7 x2_8 x3_0 x3_1 x3_2 x3_3 x3_4 x3_5 x3_6 x3_7 x3_8 =
    some (((x3_0, x3_1, x3_2, x3_3, x3_4, x3_5, x3_6, x3_7, x3_8, ()), ()), ((x0_0, x0_1, ()), ())) := by kernel_rfl
theorem F56_eq (k : Nat) (a0_0 : Int) (a0_1 : Bool) (a0_2 : Bool) (a0_3 : List Int) (a0_4 : Int) (a0_5 : Int) (a0_6 : Int) (a0_7 : Int) (a0_8 : ByteArray) : F56 (k + 2) a0_0 a0_1 a0_2 a0_3 a0_4 a0_5 a0_6 a0_7 a0_8 =
    (F33 k a0_0 a0_1 a0_2 a0_3 a0_4 a0_5 a0_6 a0_7 a0_8).bind fun r1 => some (((!r1.1.1), ()), (((), (), (), (), (), (), (), (), (), ()), ())) := by kernel_rfl
theorem F59_eq (k : Nat) (a0 : Int) (a1 : List (Int × Bool × Bool × (List Int) × Int × Int × Int × Int × ByteArray × Unit)) : F59 (k + 2) a0 a1 =
    (F40 k a0 (0 : Int) (IntKind.i64.wrap ((a1.length : Int) - (1 : Int)))).bind fun r1 => some (((!r1.1.1), ()), ((), (), ())) := by kernel_rfl
theorem F60_eq (k : Nat) (a0 : List (Int × Bool × Bool × (List Int) × Int × Int × Int × Int × ByteArray × Unit)) (a1 : List (Int × Bool × Bool × (List Int) × Int × Int × Int × Int × ByteArray × Unit)) (a2 : List Int) (a3 : List Bool) : F60 (k + 2) a0 a1 a2 a3 =
    F60c2 k a0 a1 a3 a2 (a2.length : Int) (0 : Int) := by kernel_rfl
theorem F60c2_eq (k : Nat) (x0 : List (Int × Bool × Bool × (List Int) × Int × Int × Int × Int × ByteArray × Unit)) (x1 : List (Int × Bool × Bool × (List Int) × Int × Int × Int × Int × ByteArray × Unit)) (x3 : List Bool) (x12 : List Int) (x13 : Int) (x14 : Int) : F60c2 (k + 1) x0 x1 x3 x12 x13 x14 =
    if (decide (x14 < x13)) = true then if (decide (0 ≤ x14)) = true then (x12[x14.toNat]?).bind fun y1 => if (decide (0 ≤ y1)) = true then (x0[y1.toNat]?).bind fun y2 => if (decide (0 ≤ y1)) = true then (x1[y1.toNat]?).bind fun y3 => (F34 k y2.1 y2.2.1 y2.2.2.1 y2.2.2.2.1 y2.2.2.2.2.1 y2.2.2.2.2.2.1 y2.2.2.2.2.2.2.1 y2.2.2.2.2.2.2.2.1 y2.2.2.2.2.2.2.2.2.1 y3.1 y3.2.1 y3.2.2.1 y3.2.2.2.1 y3.2.2.2.2.1 y3.2.2.2.2.2.1 y3.2.2.2.2.2.2.1 y3.2.2.2.2.2.2.2.1 y3.2.2.2.2.2.2.2.2.1).bind fun r4 => if (r4.1.1 != (0 : Int)) = true then if (decide (0 ≤ x14)) = true then (x3[x14.toNat]?).bind fun y5 => if y5 = true then some (((IntKind.i64.wrap (0 - r4.1.1)), ()), ((), (), (), (), ())) else some ((r4.1.1, ()), ((), (), (), (), ())) else none else F60c2 k x0 x1 x3 x12 x13 (IntKind.i64.wrap (x14 + (1 : Int))) else none else none else none else some (((0 : Int), ()), ((), (), (), (), ())) := by kernel_rfl
theorem F61_eq (k : Nat) (a0 : List (Int × Bool × Bool × (List Int) × Int × Int × Int × Int × ByteArray × Unit)) : F61 (k + 2) a0 =
    F61c2 k a0 (0 : Int) := by kernel_rfl
theorem F61c2_eq (k : Nat) (x0 : List (Int × Bool × Bool × (List Int) × Int × Int × Int × Int × ByteArray × Unit)) (x3 : Int) : F61c2 (k + 1) x0 x3 =
    if (decide (x3 < (x0.length : Int))) = true then if (decide (0 ≤ x3)) = true then (x0[x3.toNat]?).bind fun y1 => (F35 k y1.1 y1.2.1 y1.2.2.1 y1.2.2.2.1 y1.2.2.2.2.1 y1.2.2.2.2.2.1 y1.2.2.2.2.2.2.1 y1.2.2.2.2.2.2.2.1 y1.2.2.2.2.2.2.2.2.1).bind fun r2 => if (!r2.1.1) = true then some ((false, ()), ((), ())) else F61c2 k x0 (IntKind.i64.wrap (x3 + (1 : Int))) else none else some ((true, ()), ((), ())) := by kernel_rfl
theorem F62_eq (k : Nat) (a0 : List Int) (a1 : List Bool) (a2 : Int) : F62 (k + 2) a0 a1 a2 =
    F62c2 k a0 a1 a2 (0 : Int) := by kernel_rfl
theorem F62c2_eq (k : Nat) (x0 : List Int) (x1 : List Bool) (x2 : Int) (x7 : Int) : F62c2 (k + 1) x0 x1 x2 x7 =
    if (decide (x7 < (x0.length : Int))) = true then if (decide (0 ≤ x7)) = true then (x0[x7.toNat]?).bind fun y1 => (F77 k y1 (0 : Int) (IntKind.i64.wrap (x2 - (1 : Int)))).bind fun r2 => if (!r2.1.1) = true then some ((false, ()), ((), (), (), ())) else F62c2 k x0 x1 x2 (IntKind.i64.wrap (x7 + (1 : Int))) else none else some ((((x0.length : Int) == (x1.length : Int)), ()), ((), (), (), ())) := by kernel_rfl
theorem F63_eq (k : Nat) (a0 : List (Int × Bool × Bool × (List Int) × Int × Int × Int × Int × ByteArray × Unit)) (a1 : List (Int × Bool × Bool × (List Int) × Int × Int × Int × Int × ByteArray × Unit)) (a2 : List Int) (a3 : List Bool) : F63 (k + 2) a0 a1 a2 a3 =
    F63c2 k a0 a1 a2 a3 (0 : Int) := by kernel_rfl
theorem F63c2_eq (k : Nat) (x0 : List (Int × Bool × Bool × (List Int) × Int × Int × Int × Int × ByteArray × Unit)) (x1 : List (Int × Bool × Bool × (List Int) × Int × Int × Int × Int × ByteArray × Unit)) (x2 : List Int) (x3 : List Bool) (x9 : Int) : F63c2 (k + 1) x0 x1 x2 x3 x9 =
    if (decide (x9 < (x2.length : Int))) = true then if (decide (0 ≤ x9)) = true then (x2[x9.toNat]?).bind fun y1 => if (decide (0 ≤ y1)) = true then (x0[y1.toNat]?).bind fun y2 => if (decide (0 ≤ x9)) = true then (x2[x9.toNat]?).bind fun y3 => if (decide (0 ≤ y3)) = true then (x1[y3.toNat]?).bind fun y4 => (F36 k y2.1 y2.2.1 y2.2.2.1 y2.2.2.2.1 y2.2.2.2.2.1 y2.2.2.2.2.2.1 y2.2.2.2.2.2.2.1 y2.2.2.2.2.2.2.2.1 y2.2.2.2.2.2.2.2.2.1 y4.1 y4.2.1 y4.2.2.1 y4.2.2.2.1 y4.2.2.2.2.1 y4.2.2.2.2.2.1 y4.2.2.2.2.2.2.1 y4.2.2.2.2.2.2.2.1 y4.2.2.2.2.2.2.2.2.1).bind fun r5 => if (r5.1.1 != (0 : Int)) = true then if (decide (0 ≤ x9)) = true then (x3[x9.toNat]?).bind fun y6 => if y6 = true then some (((IntKind.i64.wrap (0 - r5.1.1)), ()), ((), (), (), (), ())) else if (r5.1.1 != (0 : Int)) = true then some ((r5.1.1, ()), ((), (), (), (), ())) else F63c2 k x0 x1 x2 x3 (IntKind.i64.wrap (x9 + (1 : Int))) else none else if (r5.1.1 != (0 : Int)) = true then some ((r5.1.1, ()), ((), (), (), (), ())) else F63c2 k x0 x1 x2 x3 (IntKind.i64.wrap (x9 + (1 : Int))) else none else none else none else none else some (((0 : Int), ()), ((), (), (), (), ())) := by kernel_rfl
theorem F64_eq (k : Nat) (a0 : List (Int × Bool × Bool × (List Int) × Int × Int × Int × Int × ByteArray × Unit)) (a1 : List Bool) : F64 (k + 2) a0 a1 =
    F64c3 k a1 ([] : List Int) a0 (a0.length : Int) (0 : Int) := by kernel_rfl
theorem F64c3_eq (k : Nat) (x1 : List Bool) (x5 : List Int) (x8 : List (Int × Bool × Bool × (List Int) × Int × Int × Int × Int × ByteArray × Unit)) (x9 : Int) (x10 : Int) : F64c3 (k + 1) x1 x5 x8 x9 x10 =
    if (decide (x10 < x9)) = true then if (decide (0 ≤ x10)) = true then (x8[x10.toNat]?).bind fun y1 => if (decide (0 ≤ x10)) = true then (x1[x10.toNat]?).bind fun y2 => (F37 k y1.1 y1.2.1 y1.2.2.1 y1.2.2.2.1 y1.2.2.2.2.1 y1.2.2.2.2.2.1 y1.2.2.2.2.2.2.1 y1.2.2.2.2.2.2.2.1 y1.2.2.2.2.2.2.2.2.1 y2).bind fun r3 => if (decide (x5.length + r3.1.1.length ≤ 140737488355328)) = true then F64c3 k x1 (x5 ++ r3.1.1) x8 x9 (IntKind.i64.wrap (x10 + (1 : Int))) else none else none else none else some (((bytesOf x5), ()), ((), (), ())) := by kernel_rfl
theorem F65_eq (k : Nat) (a0_0 : Bool) (a0_1 : List Int) (a0_2 : Int) (a1 : Int) : F65 (k + 2) a0_0 a0_1 a0_2 a1 =
    (F107 k a0_0 a0_1 a1).bind fun r1 => if (decide (r1.1.1 < (0 : Int))) = true then some (((-1 : Int), ()), (((), (), (), ()), (), ())) else some ((r1.1.1, ()), (((), (), (), ()), (), ())) := by kernel_rfl
theorem F66_eq (k : Nat) (a0_0 : Int) (a0_1 : Bool) (a0_2 : Bool) (a0_3 : List Int) (a0_4 : Int) (a0_5 : Int) (a0_6 : Int) (a0_7 : Int) (a0_8 : ByteArray) (a1 : Bool) : F66 (k + 2) a0_0 a0_1 a0_2 a0_3 a0_4 a0_5 a0_6 a0_7 a0_8 a1 =
    (F108 k a0_0 a0_1 a0_2 a0_3 a0_4 a0_5 a0_6 a0_7 a0_8).bind fun r1 => if (Nat.ble ((bytesOf [(IntKind.u8.wrap (IntKind.i64.wrap (a0_0 + (1 : Int))))]).size + r1.1.1.size) 9223372036854775807) = true then if a1 = true then (F88 k ((bytesOf [(IntKind.u8.wrap (IntKind.i64.wrap (a0_0 + (1 : Int))))]) ++ r1.1.1)).bind fun r2 => some ((r2.1.1, ()), (((), (), (), (), (), (), (), (), (), ()), (), ())) else some ((((bytesOf [(IntKind.u8.wrap (IntKind.i64.wrap (a0_0 + (1 : Int))))]) ++ r1.1.1), ()), (((), (), (), (), (), (), (), (), (), ()), (), ())) else none := by kernel_rfl
theorem F67_eq (k : Nat) (a0_0 : Bool) (a0_1 : List Int) (a0_2 : Int) : F67 (k + 2) a0_0 a0_1 a0_2 =
    (F109 k a0_0 a0_1).bind fun r1 => some (((r1.1.1.1, r1.1.1.2.1, a0_2, ()), ()), (((), (), (), ()), ())) := by kernel_rfl
theorem F68_eq (k : Nat) (a0_0 : Int) (a0_1 : Int) : F68 (k + 2) a0_0 a0_1 =
    some (((a0_0, a0_1, ()), ()), (((), (), ()), ())) := by kernel_rfl
theorem F70_eq (k : Nat) (a0_0 : List Int) (a0_1 : Int) (a1 : Int) : F70 (k + 2) a0_0 a0_1 a1 =
    if (a1 == (1 : Int)) = true then (F52 k a0_0 a0_1 (2 : Int)).bind fun r1 => (F110 k (r1.1.1 == (0 : Int))).bind fun r2 => some (((r2.1.1.1, r2.1.1.2.1, r2.1.1.2.2.1, r2.1.1.2.2.2.1, r2.1.1.2.2.2.2.1, r2.1.1.2.2.2.2.2.1, r2.1.1.2.2.2.2.2.2.1, r2.1.1.2.2.2.2.2.2.2.1, r2.1.1.2.2.2.2.2.2.2.2.1, ()), ()), ((r1.2.1.1, r1.2.1.2.1, ()), (), ())) else if (a1 == (2 : Int)) = true then (F112 k a0_0 a0_1).bind fun r3 => (F111 k r3.1.1.1 r3.1.1.2.1 r3.1.1.2.2.1).bind fun r4 => some (((r4.1.1.1, r4.1.1.2.1, r4.1.1.2.2.1, r4.1.1.2.2.2.1, r4.1.1.2.2.2.2.1, r4.1.1.2.2.2.2.2.1, r4.1.1.2.2.2.2.2.2.1, r4.1.1.2.2.2.2.2.2.2.1, r4.1.1.2.2.2.2.2.2.2.2.1, ()), ()), ((r3.2.1.1, r3.2.1.2.1, ()), (), ())) else if (a1 == (3 : Int)) = true then (F113 k a0_0 a0_1).bind fun r5 => some (((a1, false, false, ([] : List Int), (0 : Int), r5.1.1, (0 : Int), (0 : Int), ByteArray.empty, ()), ()), ((r5.2.1.1, r5.2.1.2.1, ()), (), ())) else if (a1 == (4 : Int)) = true then (F114 k a0_0 a0_1).bind fun r6 => some (((a1, false, false, ([] : List Int), (0 : Int), (0 : Int), r6.1.1.1, r6.1.1.2.1, ByteArray.empty, ()), ()), ((r6.2.1.1, r6.2.1.2.1, ()), (), ())) else if (a1 == (5 : Int)) = true then (F115 k a0_0 a0_1).bind fun r7 => some (((a1, false, false, ([] : List Int), (0 : Int), (0 : Int), (0 : Int), (0 : Int), r7.1.1, ()), ()), ((r7.2.1.1, r7.2.1.2.1, ()), (), ())) else some ((((0 : Int), false, false, ([] : List Int), (0 : Int), (0 : Int), (0 : Int), (0 : Int), ByteArray.empty, ()), ()), ((a0_0, a0_1, ()), (), ())) := by kernel_rfl
theorem F71_eq (k : Nat) (a0_0 : Bool) (a0_1 : List Int) (a0_2 : Int) : F71 (k + 2) a0_0 a0_1 a0_2 =
    (F116 k a0_0 a0_1).bind fun r1 => if r1.1.1 = true then (F117 k a0_1).bind fun r2 => if (decide (r2.1.1 ≤ (30 : Int))) = true then (F40 k a0_2 (0 : Int) (12 : Int)).bind fun r3 => some ((r3.1.1, ()), (((), (), (), ()), ())) else some ((false, ()), (((), (), (), ()), ())) else some ((false, ()), (((), (), (), ()), ())) := by kernel_rfl
theorem F72_eq (k : Nat) (a0 : Int) : F72 (k + 2) a0 =
    (F40 k a0 (1 : Int) (3652059 : Int)).bind fun r1 => some ((r1.1.1, ()), ((), ())) := by kernel_rfl
theorem F73_eq (k : Nat) (a0_0 : Int) (a0_1 : Int) : F73 (k + 2) a0_0 a0_1 =
    (F40 k a0_0 (-120000 : Int) (120000 : Int)).bind fun r1 => if r1.1.1 = true then (F40 k a0_1 (-4000000 : Int) (4000000 : Int)).bind fun r2 => some ((r2.1.1, ()), (((), (), ()), ())) else some ((false, ()), (((), (), ()), ())) := by kernel_rfl
theorem F74_eq (k : Nat) (a0_0 : Bool) (a0_1 : List Int) (a0_2 : Int) : F74 (k + 2) a0_0 a0_1 a0_2 =
    if (!a0_0) = true then if ((a0_1.length : Int) == (0 : Int)) = true then some (((a0_2 == (0 : Int)), ()), (((), (), (), ()), ())) else some ((false, ()), (((), (), (), ()), ())) else some ((false, ()), (((), (), (), ()), ())) := by kernel_rfl
theorem F75_eq (k : Nat) (a0 : Int) (a1 : Int) : F75 (k + 2) a0 a1 =
    (F118 k a0).bind fun r1 => (F118 k a1).bind fun r2 => if r1.1.1 = true then if r2.1.1 = true then some (((0 : Int), ()), ((), (), ())) else some (((-1 : Int), ()), ((), (), ())) else if r2.1.1 = true then some (((1 : Int), ()), ((), (), ())) else if (decide (a0 < a1)) = true then some (((-1 : Int), ()), ((), (), ())) else if (decide (a0 > a1)) = true then some (((1 : Int), ()), ((), (), ())) else some (((0 : Int), ()), ((), (), ())) := by kernel_rfl
theorem F76_eq (k : Nat) (a0_0 : Int) (a0_1 : Bool) (a0_2 : Bool) (a0_3 : List Int) (a0_4 : Int) (a0_5 : Int) (a0_6 : Int) (a0_7 : Int) (a0_8 : ByteArray) (a1_0 : Int) (a1_1 : Bool) (a1_2 : Bool) (a1_3 : List Int) (a1_4 : Int) (a1_5 : Int) (a1_6 : Int) (a1_7 : Int) (a1_8 : ByteArray) : F76 (k + 2) a0_0 a0_1 a0_2 a0_3 a0_4 a0_5 a0_6 a0_7 a0_8 a1_0 a1_1 a1_2 a1_3 a1_4 a1_5 a1_6 a1_7 a1_8 =
    if (a0_0 == (1 : Int)) = true then (F85 k a0_1).bind fun r1 => (F85 k a1_1).bind fun r2 => some (((IntKind.i64.wrap (r1.1.1 - r2.1.1)), ()), (((), (), (), (), (), (), (), (), (), ()), ((), (), (), (), (), (), (), (), (), ()), ())) else if (a0_0 == (2 : Int)) = true then (F119 k a0_2 a0_3 a0_4 a1_2 a1_3 a1_4).bind fun r3 => some ((r3.1.1, ()), (((), (), (), (), (), (), (), (), (), ()), ((), (), (), (), (), (), (), (), (), ()), ())) else if (a0_0 == (3 : Int)) = true then (F75 k a0_5 a1_5).bind fun r4 => some ((r4.1.1, ()), (((), (), (), (), (), (), (), (), (), ()), ((), (), (), (), (), (), (), (), (), ()), ())) else if (a0_0 == (4 : Int)) = true then (F75 k a0_6 a1_6).bind fun r5 => (F75 k a0_7 a1_7).bind fun r6 => (F120 k [r5.1.1, r6.1.1]).bind fun r7 => some ((r7.1.1, ()), (((), (), (), (), (), (), (), (), (), ()), ((), (), (), (), (), (), (), (), (), ()), ())) else if (a0_0 == (5 : Int)) = true then (F121 k a0_8 a1_8).bind fun r8 => some ((r8.1.1, ()), (((), (), (), (), (), (), (), (), (), ()), ((), (), (), (), (), (), (), (), (), ()), ())) else some (((0 : Int), ()), (((), (), (), (), (), (), (), (), (), ()), ((), (), (), (), (), (), (), (), (), ()), ())) := by kernel_rfl
theorem F77_eq (k : Nat) (a0 : Int) (a1 : Int) (a2 : Int) : F77 (k + 2) a0 a1 a2 =
    if (decide (a0 ≥ a1)) = true then some ((decide (a0 ≤ a2), ()), ((), (), (), ())) else some ((false, ()), ((), (), (), ())) := by kernel_rfl
theorem F78_eq (k : Nat) (a0_0 : Int) (a0_1 : Bool) (a0_2 : Bool) (a0_3 : List Int) (a0_4 : Int) (a0_5 : Int) (a0_6 : Int) (a0_7 : Int) (a0_8 : ByteArray) : F78 (k + 2) a0_0 a0_1 a0_2 a0_3 a0_4 a0_5 a0_6 a0_7 a0_8 =
    if (a0_0 != (1 : Int)) = true then if a0_1 = true then some ((false, ()), (((), (), (), (), (), (), (), (), (), ()), ())) else if (a0_0 != (2 : Int)) = true then (F122 k a0_2 a0_3 a0_4).bind fun r1 => if (!r1.1.1) = true then some ((false, ()), (((), (), (), (), (), (), (), (), (), ()), ())) else if (a0_0 != (4 : Int)) = true then if (a0_6 != (0 : Int)) = true then some ((false, ()), (((), (), (), (), (), (), (), (), (), ()), ())) else if (a0_7 != (0 : Int)) = true then some ((false, ()), (((), (), (), (), (), (), (), (), (), ()), ())) else if (a0_0 == (3 : Int)) = true then if (a0_0 == (5 : Int)) = true then some ((true, ()), (((), (), (), (), (), (), (), (), (), ()), ())) else some (((a0_8.toList == (⟨#[]⟩ : ByteArray).toList), ()), (((), (), (), (), (), (), (), (), (), ()), ())) else if (a0_5 == (0 : Int)) = true then if (a0_0 == (5 : Int)) = true then some ((true, ()), (((), (), (), (), (), (), (), (), (), ()), ())) else some (((a0_8.toList == (⟨#[]⟩ : ByteArray).toList), ()), (((), (), (), (), (), (), (), (), (), ()), ())) else some ((false, ()), (((), (), (), (), (), (), (), (), (), ()), ())) else if (a0_0 == (3 : Int)) = true then if (a0_0 == (5 : Int)) = true then some ((true, ()), (((), (), (), (), (), (), (), (), (), ()), ())) else some (((a0_8.toList == (⟨#[]⟩ : ByteArray).toList), ()), (((), (), (), (), (), (), (), (), (), ()), ())) else if (a0_5 == (0 : Int)) = true then if (a0_0 == (5 : Int)) = true then some ((true, ()), (((), (), (), (), (), (), (), (), (), ()), ())) else some (((a0_8.toList == (⟨#[]⟩ : ByteArray).toList), ()), (((), (), (), (), (), (), (), (), (), ()), ())) else some ((false, ()), (((), (), (), (), (), (), (), (), (), ()), ())) else if (a0_0 != (4 : Int)) = true then if (a0_6 != (0 : Int)) = true then some ((false, ()), (((), (), (), (), (), (), (), (), (), ()), ())) else if (a0_7 != (0 : Int)) = true then some ((false, ()), (((), (), (), (), (), (), (), (), (), ()), ())) else if (a0_0 == (3 : Int)) = true then if (a0_0 == (5 : Int)) = true then some ((true, ()), (((), (), (), (), (), (), (), (), (), ()), ())) else some (((a0_8.toList == (⟨#[]⟩ : ByteArray).toList), ()), (((), (), (), (), (), (), (), (), (), ()), ())) else if (a0_5 == (0 : Int)) = true then if (a0_0 == (5 : Int)) = true then some ((true, ()), (((), (), (), (), (), (), (), (), (), ()), ())) else some (((a0_8.toList == (⟨#[]⟩ : ByteArray).toList), ()), (((), (), (), (), (), (), (), (), (), ()), ())) else some ((false, ()), (((), (), (), (), (), (), (), (), (), ()), ())) else if (a0_0 == (3 : Int)) = true then if (a0_0 == (5 : Int)) = true then some ((true, ()), (((), (), (), (), (), (), (), (), (), ()), ())) else some (((a0_8.toList == (⟨#[]⟩ : ByteArray).toList), ()), (((), (), (), (), (), (), (), (), (), ()), ())) else if (a0_5 == (0 : Int)) = true then if (a0_0 == (5 : Int)) = true then some ((true, ()), (((), (), (), (), (), (), (), (), (), ()), ())) else some (((a0_8.toList == (⟨#[]⟩ : ByteArray).toList), ()), (((), (), (), (), (), (), (), (), (), ()), ())) else some ((false, ()), (((), (), (), (), (), (), (), (), (), ()), ())) else if (a0_0 != (2 : Int)) = true then (F122 k a0_2 a0_3 a0_4).bind fun r2 => if (!r2.1.1) = true then some ((false, ()), (((), (), (), (), (), (), (), (), (), ()), ())) else if (a0_0 != (4 : Int)) = true then if (a0_6 != (0 : Int)) = true then some ((false, ()), (((), (), (), (), (), (), (), (), (), ()), ())) else if (a0_7 != (0 : Int)) = true then some ((false, ()), (((), (), (), (), (), (), (), (), (), ()), ())) else if (a0_0 == (3 : Int)) = true then if (a0_0 == (5 : Int)) = true then some ((true, ()), (((), (), (), (), (), (), (), (), (), ()), ())) else some (((a0_8.toList == (⟨#[]⟩ : ByteArray).toList), ()), (((), (), (), (), (), (), (), (), (), ()), ())) else if (a0_5 == (0 : Int)) = true then if (a0_0 == (5 : Int)) = true then some ((true, ()), (((), (), (), (), (), (), (), (), (), ()), ())) else some (((a0_8.toList == (⟨#[]⟩ : ByteArray).toList), ()), (((), (), (), (), (), (), (), (), (), ()), ())) else some ((false, ()), (((), (), (), (), (), (), (), (), (), ()), ())) else if (a0_0 == (3 : Int)) = true then if (a0_0 == (5 : Int)) = true then some ((true, ()), (((), (), (), (), (), (), (), (), (), ()), ())) else some (((a0_8.toList == (⟨#[]⟩ : ByteArray).toList), ()), (((), (), (), (), (), (), (), (), (), ()), ())) else if (a0_5 == (0 : Int)) = true then if (a0_0 == (5 : Int)) = true then some ((true, ()), (((), (), (), (), (), (), (), (), (), ()), ())) else some (((a0_8.toList == (⟨#[]⟩ : ByteArray).toList), ()), (((), (), (), (), (), (), (), (), (), ()), ())) else some ((false, ()), (((), (), (), (), (), (), (), (), (), ()), ())) else if (a0_0 != (4 : Int)) = true then if (a0_6 != (0 : Int)) = true then some ((false, ()), (((), (), (), (), (), (), (), (), (), ()), ())) else if (a0_7 != (0 : Int)) = true then some ((false, ()), (((), (), (), (), (), (), (), (), (), ()), ())) else if (a0_0 == (3 : Int)) = true then if (a0_0 == (5 : Int)) = true then some ((true, ()), (((), (), (), (), (), (), (), (), (), ()), ())) else some (((a0_8.toList == (⟨#[]⟩ : ByteArray).toList), ()), (((), (), (), (), (), (), (), (), (), ()), ())) else if (a0_5 == (0 : Int)) = true then if (a0_0 == (5 : Int)) = true then some ((true, ()), (((), (), (), (), (), (), (), (), (), ()), ())) else some (((a0_8.toList == (⟨#[]⟩ : ByteArray).toList), ()), (((), (), (), (), (), (), (), (), (), ()), ())) else some ((false, ()), (((), (), (), (), (), (), (), (), (), ()), ())) else if (a0_0 == (3 : Int)) = true then if (a0_0 == (5 : Int)) = true then some ((true, ()), (((), (), (), (), (), (), (), (), (), ()), ())) else some (((a0_8.toList == (⟨#[]⟩ : ByteArray).toList), ()), (((), (), (), (), (), (), (), (), (), ()), ())) else if (a0_5 == (0 : Int)) = true then if (a0_0 == (5 : Int)) = true then some ((true, ()), (((), (), (), (), (), (), (), (), (), ()), ())) else some (((a0_8.toList == (⟨#[]⟩ : ByteArray).toList), ()), (((), (), (), (), (), (), (), (), (), ()), ())) else some ((false, ()), (((), (), (), (), (), (), (), (), (), ()), ())) := by kernel_rfl
theorem F79_eq (k : Nat) (a0_0 : Bool) (a0_1 : List Int) (a0_2 : Int) : F79 (k + 2) a0_0 a0_1 a0_2 =
    (F123 k a0_0 a0_1).bind fun r1 => if r1.1.1 = true then (F124 k a0_1).bind fun r2 => if (decide (r2.1.1 ≤ (30 : Int))) = true then (F77 k a0_2 (0 : Int) (12 : Int)).bind fun r3 => some ((r3.1.1, ()), (((), (), (), ()), ())) else some ((false, ()), (((), (), (), ()), ())) else some ((false, ()), (((), (), (), ()), ())) := by kernel_rfl
theorem F80_eq (k : Nat) (a0 : Int) : F80 (k + 2) a0 =
    (F77 k a0 (1 : Int) (3652059 : Int)).bind fun r1 => some ((r1.1.1, ()), ((), ())) := by kernel_rfl
theorem F81_eq (k : Nat) (a0_0 : Int) (a0_1 : Int) : F81 (k + 2) a0_0 a0_1 =
    (F77 k a0_0 (-120000 : Int) (120000 : Int)).bind fun r1 => if r1.1.1 = true then (F77 k a0_1 (-4000000 : Int) (4000000 : Int)).bind fun r2 => some ((r2.1.1, ()), (((), (), ()), ())) else some ((false, ()), (((), (), ()), ())) := by kernel_rfl
theorem F82_eq (k : Nat) (a0 : ByteArray) : F82 (k + 2) a0 =
    F82c2 k a0 (0 : Int) := by kernel_rfl
theorem F82c2_eq (k : Nat) (x0 : ByteArray) (x3 : Int) : F82c2 (k + 1) x0 x3 =
    if (decide (x3 < (x0.size : Int))) = true then if (decide (0 ≤ x3)) = true then (x0[x3.toNat]?).bind fun u1 => if (decide ((u1.toNat : Int) < (32 : Int))) = true then some ((false, ()), ((), ())) else if (decide (0 ≤ x3)) = true then (x0[x3.toNat]?).bind fun u2 => if (decide ((u2.toNat : Int) > (126 : Int))) = true then some ((false, ()), ((), ())) else F82c2 k x0 (IntKind.i64.wrap (x3 + (1 : Int))) else none else none else some ((decide ((x0.size : Int) ≤ (12 : Int)), ()), ((), ())) := by kernel_rfl
theorem F83_eq (k : Nat) (a0 : Int) (a1 : Int) : F83 (k + 2) a0 a1 =
    if (decide (a0 < a1)) = true then some (((-1 : Int), ()), ((), (), ())) else if (decide (a0 > a1)) = true then some (((1 : Int), ()), ((), (), ())) else some (((0 : Int), ()), ((), (), ())) := by kernel_rfl
theorem F84_eq (k : Nat) (a0_0 : Int) (a0_1 : Bool) (a0_2 : Bool) (a0_3 : List Int) (a0_4 : Int) (a0_5 : Int) (a0_6 : Int) (a0_7 : Int) (a0_8 : ByteArray) (a1_0 : Int) (a1_1 : Bool) (a1_2 : Bool) (a1_3 : List Int) (a1_4 : Int) (a1_5 : Int) (a1_6 : Int) (a1_7 : Int) (a1_8 : ByteArray) : F84 (k + 2) a0_0 a0_1 a0_2 a0_3 a0_4 a0_5 a0_6 a0_7 a0_8 a1_0 a1_1 a1_2 a1_3 a1_4 a1_5 a1_6 a1_7 a1_8 =
    if (a0_0 == (1 : Int)) = true then (F125 k a0_1).bind fun r1 => (F125 k a1_1).bind fun r2 => (F83 k r1.1.1 r2.1.1).bind fun r3 => some ((r3.1.1, ()), (((), (), (), (), (), (), (), (), (), ()), ((), (), (), (), (), (), (), (), (), ()), ())) else if (a0_0 == (2 : Int)) = true then (F126 k a0_2 a0_3 a0_4 a1_2 a1_3 a1_4).bind fun r4 => some ((r4.1.1, ()), (((), (), (), (), (), (), (), (), (), ()), ((), (), (), (), (), (), (), (), (), ()), ())) else if (a0_0 == (3 : Int)) = true then (F83 k a0_5 a1_5).bind fun r5 => some ((r5.1.1, ()), (((), (), (), (), (), (), (), (), (), ()), ((), (), (), (), (), (), (), (), (), ()), ())) else if (a0_0 == (4 : Int)) = true then if (a0_6 != a1_6) = true then (F83 k a0_6 a1_6).bind fun r6 => some ((r6.1.1, ()), (((), (), (), (), (), (), (), (), (), ()), ((), (), (), (), (), (), (), (), (), ()), ())) else (F83 k a0_7 a1_7).bind fun r7 => some ((r7.1.1, ()), (((), (), (), (), (), (), (), (), (), ()), ((), (), (), (), (), (), (), (), (), ()), ())) else (F127 k a0_8 a1_8).bind fun r8 => some ((r8.1.1, ()), (((), (), (), (), (), (), (), (), (), ()), ((), (), (), (), (), (), (), (), (), ()), ())) := by kernel_rfl
theorem F85_eq (k : Nat) (a0 : Bool) : F85 (k + 2) a0 =
    if a0 = true then some (((1 : Int), ()), ((), ())) else some (((0 : Int), ()), ((), ())) := by kernel_rfl
theorem F86_eq (k : Nat) (a0_0 : Bool) (a0_1 : List Int) (a0_2 : Int) : F86 (k + 2) a0_0 a0_1 a0_2 =
    (F128 k a0_0 a0_1 a0_2).bind fun r1 => if ((r1.1.1.2.1.length : Int) == (0 : Int)) = true then some (([(128 : Int)], ()), (((), (), (), ()), ())) else (F129 k r1.1.1.2.1).bind fun r2 => (F130 k r2.1.1 (⟨#[48]⟩ : ByteArray)).bind fun r3 => F86c7 k r1.1.1.1 r1.1.1.2.1 r1.1.1.2.2.1 [(IntKind.u8.wrap (IntKind.i64.wrap ((IntKind.i64.wrap ((64 : Int) + (r2.1.1.size : Int))) - r1.1.1.2.2.1)))] (r3.1.1.data.toList.map fun b => (b.toNat : Int)) ((r3.1.1.data.toList.map fun b => (b.toNat : Int)).length : Int) (0 : Int) := by kernel_rfl
theorem F86c7_eq (k : Nat) (x1_0 : Bool) (x1_1 : List Int) (x1_2 : Int) (x4 : List Int) (x29 : List Int) (x30 : Int) (x31 : Int) : F86c7 (k + 1) x1_0 x1_1 x1_2 x4 x29 x30 x31 =
    if (decide (x31 < x30)) = true then if (decide (0 ≤ x31)) = true then (x29[x31.toNat]?).bind fun y4 => if (decide (x4.length + [(IntKind.u8.wrap ((IntKind.u8.wrap (y4 - (48 : Int))) + (1 : Int)))].length ≤ 140737488355328)) = true then F86c7 k x1_0 x1_1 x1_2 (x4 ++ [(IntKind.u8.wrap ((IntKind.u8.wrap (y4 - (48 : Int))) + (1 : Int)))]) x29 x30 (IntKind.i64.wrap (x31 + (1 : Int))) else none else none else if (decide (x4.length + [(0 : Int)].length ≤ 140737488355328)) = true then if x1_0 = true then (F39 k (x4 ++ [(0 : Int)])).bind fun r5 => if (decide ([(127 : Int)].length + r5.1.1.length ≤ 140737488355328)) = true then some ((([(127 : Int)] ++ r5.1.1), ()), (((), (), (), ()), ())) else none else if (decide ([(129 : Int)].length + (x4 ++ [(0 : Int)]).length ≤ 140737488355328)) = true then some ((([(129 : Int)] ++ (x4 ++ [(0 : Int)])), ()), (((), (), (), ()), ())) else none else none := by kernel_rfl
theorem F87_eq (k : Nat) (a0 : Int) : F87 (k + 2) a0 =
    some (([(IntKind.u8.wrap (a0.fdiv (2 ^ min (16 : Int).toNat IntKind.i64.bits))), (IntKind.u8.wrap (a0.fdiv (2 ^ min (8 : Int).toNat IntKind.i64.bits))), (IntKind.u8.wrap a0)], ()), ((), ())) := by kernel_rfl
theorem F88_eq (k : Nat) (a0 : ByteArray) : F88 (k + 2) a0 =
    if (decide (0 ≤ (a0.size : Int)) && decide ((a0.size : Int) ≤ (a0.size : Int)) && decide ((a0.size : Int) ≤ (140737488355328 : Int))) = true then F88c3 k a0 (List.replicate (a0.size : Int).toNat (0 : Int)) (0 : Int) else none := by kernel_rfl
theorem F88c3_eq (k : Nat) (x0 : ByteArray) (x3 : List Int) (x4 : Int) : F88c3 (k + 1) x0 x3 x4 =
    if (decide (x4 < (x0.size : Int))) = true then if (decide (0 ≤ x4)) = true then (x0[x4.toNat]?).bind fun u1 => if (decide (0 ≤ x4) && decide (x4 < (x3.length : Int))) = true then (x3[x4.toNat]?).bind fun y2 => F88c3 k x0 (x3.set x4.toNat (IntKind.u8.wrap ((255 : Int) - (u1.toNat : Int)))) (IntKind.i64.wrap (x4 + (1 : Int))) else none else none else some (((bytesOf x3), ()), ((), ())) := by kernel_rfl
theorem F91_eq (k : Nat) (a0 : Bool) (a1 : List Int) : F91 (k + 2) a0 a1 =
    (F139 k a1).bind fun r1 => if (decide ((r1.1.1.length : Int) > (16 : Int))) = true then some (((false, ([] : List Int), ()), false, ()), ((), (), ())) else if a0 = true then (F140 k r1.1.1).bind fun r2 => some (((decide ((r1.1.1.length : Int) > (0 : Int)), r2.1.1, ()), true, ()), ((), (), ())) else (F140 k r1.1.1).bind fun r3 => some (((false, r3.1.1, ()), true, ()), ((), (), ())) := by kernel_rfl
theorem F95_eq (k : Nat) (a0_0 : Bool) (a0_1 : List Int) (a1_0 : Bool) (a1_1 : List Int) : F95 (k + 2) a0_0 a0_1 a1_0 a1_1 =
    if (!(a0_0 == a1_0)) = true then some ((false, ()), (((), (), ()), ((), (), ()), ())) else (F143 k a0_1 a1_1).bind fun r1 => if (!r1.1.1) = true then some ((false, ()), (((), (), ()), ((), (), ()), ())) else some ((true, ()), (((), (), ()), ((), (), ()), ())) := by kernel_rfl
theorem F98_eq (k : Nat) (a0_0 : List Int) (a0_1 : Int) : F98 (k + 2) a0_0 a0_1 =
    (F54 k a0_0 a0_1 [(1 : Int), (2 : Int), (2 : Int), (2 : Int), (3 : Int), (4 : Int), (5 : Int)]).bind fun r1 => if (r1.1.1 == (2 : Int)) = true then (F54 k r1.2.1.1 r1.2.1.2.1 [(1 : Int), (2 : Int), (3 : Int), (6 : Int), (10 : Int), (30 : Int), (12 : Int)]).bind fun r2 => (F54 k r2.2.1.1 r2.2.1.2.1 [(0 : Int), (0 : Int), (1 : Int), (2 : Int), (6 : Int), (12 : Int)]).bind fun r3 => if (decide (r3.1.1 > r2.1.1)) = true then F98c7 k r3.2.1.1 r3.2.1.2.1 (0 : Int) (0 : Int) (0 : Int) r1.1.1 r2.1.1 r2.1.1 else F98c7 k r3.2.1.1 r3.2.1.2.1 (0 : Int) (0 : Int) (0 : Int) r1.1.1 r2.1.1 r3.1.1 else some (((r1.1.1, (0 : Int), (0 : Int), ()), ()), ((r1.2.1.1, r1.2.1.2.1, ()), ())) := by kernel_rfl
theorem F98c7_eq (k : Nat) (x0_0 : List Int) (x0_1 : Int) (x2_0 : Int) (x2_1 : Int) (x2_2 : Int) (x3 : Int) (x4 : Int) (x5 : Int) : F98c7 (k + 1) x0_0 x0_1 x2_0 x2_1 x2_2 x3 x4 x5 =
    some (((x3, x4, x5, ()), ()), ((x0_0, x0_1, ()), ())) := by kernel_rfl
theorem F99_eq (k : Nat) (a0_0 : List Int) (a0_1 : Int) (a1_0 : Int) (a1_1 : Int) (a1_2 : Int) : F99 (k + 2) a0_0 a0_1 a1_0 a1_1 a1_2 =
    (F52 k a0_0 a0_1 (6 : Int)).bind fun r1 => if (r1.1.1 == (0 : Int)) = true then some ((((0 : Int), false, false, ([] : List Int), (0 : Int), (0 : Int), (0 : Int), (0 : Int), ByteArray.empty, ()), ()), ((r1.2.1.1, r1.2.1.2.1, ()), ((), (), (), ()), ())) else (F70 k r1.2.1.1 r1.2.1.2.1 a1_0).bind fun r2 => if (a1_0 == (2 : Int)) = true then (F146 k r2.1.1.2.2.1 r2.1.1.2.2.2.1 r2.1.1.2.2.2.2.1 a1_0 a1_1 a1_2).bind fun r3 => if (decide (r3.1.2.1 > (0 : Int))) = true then some ((((0 : Int), false, false, ([] : List Int), (0 : Int), (0 : Int), (0 : Int), (0 : Int), ByteArray.empty, ()), ()), ((r2.2.1.1, r2.2.1.2.1, ()), ((), (), (), ()), ())) else some (((r3.1.1.1, r3.1.1.2.1, r3.1.1.2.2.1, r3.1.1.2.2.2.1, r3.1.1.2.2.2.2.1, r3.1.1.2.2.2.2.2.1, r3.1.1.2.2.2.2.2.2.1, r3.1.1.2.2.2.2.2.2.2.1, r3.1.1.2.2.2.2.2.2.2.2.1, ()), ()), ((r2.2.1.1, r2.2.1.2.1, ()), ((), (), (), ()), ())) else some (((r2.1.1.1, r2.1.1.2.1, r2.1.1.2.2.1, r2.1.1.2.2.2.1, r2.1.1.2.2.2.2.1, r2.1.1.2.2.2.2.2.1, r2.1.1.2.2.2.2.2.2.1, r2.1.1.2.2.2.2.2.2.2.1, r2.1.1.2.2.2.2.2.2.2.2.1, ()), ()), ((r2.2.1.1, r2.2.1.2.1, ()), ((), (), (), ()), ())) := by kernel_rfl
theorem F100_eq (k : Nat) (a0_0 : List Int) (a0_1 : Int) : F100 (k + 2) a0_0 a0_1 =
    (F52 k a0_0 a0_1 (6 : Int)).bind fun r1 => (F70 k r1.2.1.1 r1.2.1.2.1 r1.1.1).bind fun r2 => some (((r2.1.1.1, r2.1.1.2.1, r2.1.1.2.2.1, r2.1.1.2.2.2.1, r2.1.1.2.2.2.2.1, r2.1.1.2.2.2.2.2.1, r2.1.1.2.2.2.2.2.2.1, r2.1.1.2.2.2.2.2.2.2.1, r2.1.1.2.2.2.2.2.2.2.2.1, ()), ()), ((r2.2.1.1, r2.2.1.2.1, ()), ())) := by kernel_rfl
theorem F101_eq (k : Nat) (a0_0 : List Int) (a0_1 : Int) (a1 : List ByteArray) : F101 (k + 2) a0_0 a0_1 a1 =
    (F52 k a0_0 a0_1 (a1.length : Int)).bind fun r1 => if (decide (0 ≤ r1.1.1) && decide (r1.1.1 < (a1.length : Int))) = true then (a1[r1.1.1.toNat]?).bind fun y2 => some ((y2, ()), ((r1.2.1.1, r1.2.1.2.1, ()), (), ())) else none := by kernel_rfl
theorem F102_eq (k : Nat) (a0_0 : List Int) (a0_1 : Int) : F102 (k + 2) a0_0 a0_1 =
    (F112 k a0_0 a0_1).bind fun r1 => (F52 k r1.2.1.1 r1.2.1.2.1 (30 : Int)).bind fun r2 => if (r2.1.1 == (0 : Int)) = true then (F54 k r2.2.1.1 r2.2.1.2.1 [(-1 : Int), (13 : Int), (4611686018427387904 : Int)]).bind fun r3 => F102c9 k r3.2.1.1 r3.2.1.2.1 false ([] : List Int) (0 : Int) r1.1.1.1 r1.1.1.2.1 r3.1.1 else if (r2.1.1 == (1 : Int)) = true then (F147 k r2.2.1.1 r2.2.1.2.1 (31 : Int)).bind fun r4 => F102c9 k r4.2.1.1 r4.2.1.2.1 false ([] : List Int) (0 : Int) r4.1.1.1 r4.1.1.2.1 r1.1.1.2.2.1 else if (r2.1.1 == (2 : Int)) = true then (F148 k r2.2.1.1 r2.2.1.2.1).bind fun r5 => F102c9 k r5.2.1.1 r5.2.1.2.1 false ([] : List Int) (0 : Int) r5.1.1.1 r5.1.1.2.1 r1.1.1.2.2.1 else F102c9 k r2.2.1.1 r2.2.1.2.1 false ([] : List Int) (0 : Int) r1.1.1.1 r1.1.1.2.1 r1.1.1.2.2.1 := by kernel_rfl
theorem F102c9_eq (k : Nat) (x0_0 : List Int) (x0_1 : Int) (x2_0 : Bool) (x2_1 : List Int) (x2_2 : Int) (x3_0 : Bool) (x3_1 : List Int) (x3_2 : Int) : F102c9 (k + 1) x0_0 x0_1 x2_0 x2_1 x2_2 x3_0 x3_1 x3_2 =
    some (((x3_0, x3_1, x3_2, ()), ()), ((x0_0, x0_1, ()), ())) := by kernel_rfl
theorem F103_eq (k : Nat) (a0_0 : List Int) (a0_1 : Int) : F103 (k + 2) a0_0 a0_1 =
    (F52 k a0_0 a0_1 (20 : Int)).bind fun r1 => if (r1.1.1 == (0 : Int)) = true then (F54 k r1.2.1.1 r1.2.1.2.1 [(0 : Int), (-1 : Int), (3652060 : Int)]).bind fun r2 => some ((r2.1.1, ()), ((r2.2.1.1, r2.2.1.2.1, ()), ())) else (F113 k r1.2.1.1 r1.2.1.2.1).bind fun r3 => some ((r3.1.1, ()), ((r3.2.1.1, r3.2.1.2.1, ()), ())) := by kernel_rfl
theorem F104_eq (k : Nat) (a0_0 : List Int) (a0_1 : Int) : F104 (k + 2) a0_0 a0_1 =
    (F114 k a0_0 a0_1).bind fun r1 => (F52 k r1.2.1.1 r1.2.1.2.1 (20 : Int)).bind fun r2 => if (r2.1.1 == (0 : Int)) = true then (F54 k r2.2.1.1 r2.2.1.2.1 [(120001 : Int), (-120001 : Int)]).bind fun r3 => F104c4 k r3.2.1.1 r3.2.1.2.1 (0 : Int) (0 : Int) r3.1.1 r1.1.1.2.1 else F104c4 k r2.2.1.1 r2.2.1.2.1 (0 : Int) (0 : Int) r1.1.1.1 r1.1.1.2.1 := by kernel_rfl
theorem F104c4_eq (k : Nat) (x0_0 : List Int) (x0_1 : Int) (x2_0 : Int) (x2_1 : Int) (x3_0 : Int) (x3_1 : Int) : F104c4 (k + 1) x0_0 x0_1 x2_0 x2_1 x3_0 x3_1 =
    (F52 k x0_0 x0_1 (20 : Int)).bind fun r4 => if (r4.1.1 == (0 : Int)) = true then (F54 k r4.2.1.1 r4.2.1.2.1 [(4000001 : Int), (-4000001 : Int)]).bind fun r5 => F104c6 k r5.2.1.1 r5.2.1.2.1 x2_0 x2_1 x3_0 r5.1.1 else F104c6 k r4.2.1.1 r4.2.1.2.1 x2_0 x2_1 x3_0 x3_1 := by kernel_rfl
theorem F104c6_eq (k : Nat) (x0_0 : List Int) (x0_1 : Int) (x2_0 : Int) (x2_1 : Int) (x3_0 : Int) (x3_1 : Int) : F104c6 (k + 1) x0_0 x0_1 x2_0 x2_1 x3_0 x3_1 =
    some (((x3_0, x3_1, ()), ()), ((x0_0, x0_1, ()), ())) := by kernel_rfl
theorem F107_eq (k : Nat) (a0_0 : Bool) (a0_1 : List Int) (a1 : Int) : F107 (k + 2) a0_0 a0_1 a1 =
    (F149 k a0_1 a1).bind fun r1 => if (decide (r1.1.1 < (0 : Int))) = true then some (((-1 : Int), ()), (((), (), ()), (), ())) else some ((r1.1.1, ()), (((), (), ()), (), ())) := by kernel_rfl
theorem F108_eq (k : Nat) (a0_0 : Int) (a0_1 : Bool) (a0_2 : Bool) (a0_3 : List Int) (a0_4 : Int) (a0_5 : Int) (a0_6 : Int) (a0_7 : Int) (a0_8 : ByteArray) : F108 (k + 2) a0_0 a0_1 a0_2 a0_3 a0_4 a0_5 a0_6 a0_7 a0_8 =
    if (a0_0 == (1 : Int)) = true then (F125 k a0_1).bind fun r1 => some (((bytesOf [(IntKind.u8.wrap r1.1.1)]), ()), (((), (), (), (), (), (), (), (), (), ()), ())) else if (a0_0 == (2 : Int)) = true then (F150 k a0_2 a0_3 a0_4).bind fun r2 => some ((r2.1.1, ()), (((), (), (), (), (), (), (), (), (), ()), ())) else if (a0_0 == (3 : Int)) = true then (F151 k a0_5).bind fun r3 => some ((r3.1.1, ()), (((), (), (), (), (), (), (), (), (), ()), ())) else if (a0_0 == (4 : Int)) = true then (F151 k (IntKind.i64.wrap (a0_6 + (120000 : Int)))).bind fun r4 => (F151 k (IntKind.i64.wrap (a0_7 + (4000000 : Int)))).bind fun r5 => if (Nat.ble (r4.1.1.size + r5.1.1.size) 9223372036854775807) = true then some (((r4.1.1 ++ r5.1.1), ()), (((), (), (), (), (), (), (), (), (), ()), ())) else none else if (a0_0 == (5 : Int)) = true then if (Nat.ble (a0_8.size + (⟨#[0]⟩ : ByteArray).size) 9223372036854775807) = true then some (((a0_8 ++ (⟨#[0]⟩ : ByteArray)), ()), (((), (), (), (), (), (), (), (), (), ()), ())) else none else some (((⟨#[]⟩ : ByteArray), ()), (((), (), (), (), (), (), (), (), (), ()), ())) := by kernel_rfl
theorem F109_eq (k : Nat) (a0_0 : Bool) (a0_1 : List Int) : F109 (k + 2) a0_0 a0_1 =
    (F152 k a0_1).bind fun r1 => some (((a0_0, r1.1.1, ()), ()), (((), (), ()), ())) := by kernel_rfl
theorem F110_eq (k : Nat) (a0 : Bool) : F110 (k + 2) a0 =
    some ((((1 : Int), a0, false, ([] : List Int), (0 : Int), (0 : Int), (0 : Int), (0 : Int), ByteArray.empty, ()), ()), ((), ())) := by kernel_rfl
theorem F111_eq (k : Nat) (a0_0 : Bool) (a0_1 : List Int) (a0_2 : Int) : F111 (k + 2) a0_0 a0_1 a0_2 =
    some ((((2 : Int), false, a0_0, a0_1, a0_2, (0 : Int), (0 : Int), (0 : Int), ByteArray.empty, ()), ()), (((), (), (), ()), ())) := by kernel_rfl
theorem F112_eq (k : Nat) (a0_0 : List Int) (a0_1 : Int) : F112 (k + 2) a0_0 a0_1 =
    (F52 k a0_0 a0_1 (13 : Int)).bind fun r1 => (F54 k r1.2.1.1 r1.2.1.2.1 [(0 : Int), (0 : Int), (1 : Int), (2 : Int), (2 : Int), (3 : Int), (6 : Int), (12 : Int), r1.1.1]).bind fun r2 => (F52 k r2.2.1.1 r2.2.1.2.1 (5 : Int)).bind fun r3 => if (r3.1.1 == (0 : Int)) = true then (F52 k r3.2.1.1 r3.2.1.2.1 (200 : Int)).bind fun r4 => (F153 k (IntKind.i64.wrap (r4.1.1 - (100 : Int)))).bind fun r5 => some (((r5.1.1.1, r5.1.1.2.1, r2.1.1, ()), ()), ((r4.2.1.1, r4.2.1.2.1, ()), ())) else if (r3.1.1 == (1 : Int)) = true then (F54 k r3.2.1.1 r3.2.1.2.1 [(5 : Int), (15 : Int), (25 : Int), (35 : Int), (45 : Int), (-5 : Int), (-15 : Int), (-25 : Int), (50 : Int), (150 : Int), (250 : Int), (499 : Int), (500 : Int), (501 : Int), (-500 : Int), (1500 : Int), (2500 : Int), (-2500 : Int), (1000 : Int), (20 : Int)]).bind fun r6 => (F153 k r6.1.1).bind fun r7 => some (((r7.1.1.1, r7.1.1.2.1, r2.1.1, ()), ()), ((r6.2.1.1, r6.2.1.2.1, ()), ())) else if (r3.1.1 == (2 : Int)) = true then (F147 k r3.2.1.1 r3.2.1.2.1 (8 : Int)).bind fun r8 => some (((r8.1.1.1, r8.1.1.2.1, r2.1.1, ()), ()), ((r8.2.1.1, r8.2.1.2.1, ()), ())) else (F147 k r3.2.1.1 r3.2.1.2.1 (30 : Int)).bind fun r9 => some (((r9.1.1.1, r9.1.1.2.1, r2.1.1, ()), ()), ((r9.2.1.1, r9.2.1.2.1, ()), ())) := by kernel_rfl
theorem F113_eq (k : Nat) (a0_0 : List Int) (a0_1 : Int) : F113 (k + 2) a0_0 a0_1 =
    (F52 k a0_0 a0_1 (6 : Int)).bind fun r1 => if (r1.1.1 == (0 : Int)) = true then (F54 k r1.2.1.1 r1.2.1.2.1 [(1 : Int), (2 : Int), (31 : Int), (59 : Int), (60 : Int), (3652059 : Int), (3652058 : Int), (366 : Int)]).bind fun r2 => some ((r2.1.1, ()), ((r2.2.1.1, r2.2.1.2.1, ()), ())) else if (r1.1.1 == (1 : Int)) = true then (F54 k r1.2.1.1 r1.2.1.2.1 [(4 : Int), (1900 : Int), (2000 : Int), (2023 : Int), (2024 : Int), (2100 : Int), (9999 : Int)]).bind fun r3 => (F54 k r3.2.1.1 r3.2.1.2.1 [(1 : Int), (2 : Int), (2 : Int), (3 : Int), (12 : Int)]).bind fun r4 => (F154 k r3.1.1 r4.1.1 (28 : Int)).bind fun r5 => some ((r5.1.1, ()), ((r4.2.1.1, r4.2.1.2.1, ()), ())) else if (r1.1.1 == (2 : Int)) = true then (F54 k r1.2.1.1 r1.2.1.2.1 [(4 : Int), (2000 : Int), (2024 : Int), (9996 : Int)]).bind fun r6 => (F154 k r6.1.1 (2 : Int) (29 : Int)).bind fun r7 => some ((r7.1.1, ()), ((r6.2.1.1, r6.2.1.2.1, ()), ())) else if (r1.1.1 == (3 : Int)) = true then (F54 k r1.2.1.1 r1.2.1.2.1 [(1 : Int), (2023 : Int), (2024 : Int), (9999 : Int)]).bind fun r8 => (F54 k r8.2.1.1 r8.2.1.2.1 [(1 : Int), (3 : Int), (5 : Int), (8 : Int), (10 : Int), (12 : Int)]).bind fun r9 => (F154 k r8.1.1 r9.1.1 (31 : Int)).bind fun r10 => some ((r10.1.1, ()), ((r9.2.1.1, r9.2.1.2.1, ()), ())) else (F52 k r1.2.1.1 r1.2.1.2.1 (8 : Int)).bind fun r11 => (F52 k r11.2.1.1 r11.2.1.2.1 (12 : Int)).bind fun r12 => (F52 k r12.2.1.1 r12.2.1.2.1 (28 : Int)).bind fun r13 => (F154 k (IntKind.i64.wrap ((2020 : Int) + r11.1.1)) (IntKind.i64.wrap ((1 : Int) + r12.1.1)) (IntKind.i64.wrap ((1 : Int) + r13.1.1))).bind fun r14 => some ((r14.1.1, ()), ((r13.2.1.1, r13.2.1.2.1, ()), ())) := by kernel_rfl
theorem F114_eq (k : Nat) (a0_0 : List Int) (a0_1 : Int) : F114 (k + 2) a0_0 a0_1 =
    (F52 k a0_0 a0_1 (5 : Int)).bind fun r1 => if (r1.1.1 == (0 : Int)) = true then (F54 k r1.2.1.1 r1.2.1.2.1 [(0 : Int), (120000 : Int), (-120000 : Int), (119987 : Int), (-119988 : Int)]).bind fun r2 => (F54 k r2.2.1.1 r2.2.1.2.1 [(0 : Int), (4000000 : Int), (-4000000 : Int)]).bind fun r3 => some (((r2.1.1, r3.1.1, ()), ()), ((r3.2.1.1, r3.2.1.2.1, ()), ())) else if (r1.1.1 == (1 : Int)) = true then (F52 k r1.2.1.1 r1.2.1.2.1 (30 : Int)).bind fun r4 => some ((((IntKind.i64.wrap (r4.1.1 - (15 : Int))), (0 : Int), ()), ()), ((r4.2.1.1, r4.2.1.2.1, ()), ())) else if (r1.1.1 == (2 : Int)) = true then (F52 k r1.2.1.1 r1.2.1.2.1 (80 : Int)).bind fun r5 => some ((((0 : Int), (IntKind.i64.wrap (r5.1.1 - (40 : Int))), ()), ()), ((r5.2.1.1, r5.2.1.2.1, ()), ())) else (F52 k r1.2.1.1 r1.2.1.2.1 (60 : Int)).bind fun r6 => (F52 k r6.2.1.1 r6.2.1.2.1 (60 : Int)).bind fun r7 => some ((((IntKind.i64.wrap (r6.1.1 - (30 : Int))), (IntKind.i64.wrap (r7.1.1 - (30 : Int))), ()), ()), ((r7.2.1.1, r7.2.1.2.1, ()), ())) := by kernel_rfl
theorem F115_eq (k : Nat) (a0_0 : List Int) (a0_1 : Int) : F115 (k + 2) a0_0 a0_1 =
    (F101 k a0_0 a0_1 [(⟨#[]⟩ : ByteArray), (⟨#[97]⟩ : ByteArray), (⟨#[98]⟩ : ByteArray), (⟨#[97, 98]⟩ : ByteArray), (⟨#[105, 116, 39, 115]⟩ : ByteArray), (⟨#[39, 39]⟩ : ByteArray), (⟨#[122, 32, 122]⟩ : ByteArray), (⟨#[116, 114, 117, 101]⟩ : ByteArray), (⟨#[49, 50]⟩ : ByteArray), (⟨#[49, 46, 53, 48]⟩ : ByteArray), (⟨#[50, 48, 50, 52, 45, 48, 50, 45, 50, 57]⟩ : ByteArray), (⟨#[126, 126, 126, 126, 126, 126, 126, 126, 126, 126, 126, 126]⟩ : ByteArray), (⟨#[51, 109, 45, 52, 100]⟩ : ByteArray), (⟨#[65]⟩ : ByteArray)]).bind fun r1 => some ((r1.1.1, ()), ((r1.2.1.1, r1.2.1.2.1, ()), ())) := by kernel_rfl
theorem F116_eq (k : Nat) (a0_0 : Bool) (a0_1 : List Int) : F116 (k + 2) a0_0 a0_1 =
    if (decide ((a0_1.length : Int) ≤ (16 : Int))) = true then if ((a0_1.length : Int) == (0 : Int)) = true then if (!a0_0) = true then (F156058 k a0_1).bind fun r1 => some (((!r1.1.1), ()), (((), (), ()), ())) else if (decide ((a0_1.length : Int) > (0 : Int))) = true then if (decide (0 ≤ (IntKind.i64.wrap ((a0_1.length : Int) - (1 : Int))))) = true then (a0_1[(IntKind.i64.wrap ((a0_1.length : Int) - (1 : Int))).toNat]?).bind fun y2 => if (y2 != (0 : Int)) = true then (F156058 k a0_1).bind fun r3 => some (((!r3.1.1), ()), (((), (), ()), ())) else some ((false, ()), (((), (), ()), ())) else none else some ((false, ()), (((), (), ()), ())) else if (decide ((a0_1.length : Int) > (0 : Int))) = true then if (decide (0 ≤ (IntKind.i64.wrap ((a0_1.length : Int) - (1 : Int))))) = true then (a0_1[(IntKind.i64.wrap ((a0_1.length : Int) - (1 : Int))).toNat]?).bind fun y4 => if (y4 != (0 : Int)) = true then (F156058 k a0_1).bind fun r5 => some (((!r5.1.1), ()), (((), (), ()), ())) else some ((false, ()), (((), (), ()), ())) else none else some ((false, ()), (((), (), ()), ())) else some ((false, ()), (((), (), ()), ())) := by kernel_rfl
theorem F117_eq (k : Nat) (a0 : List Int) : F117 (k + 2) a0 =
    if ((a0.length : Int) == (0 : Int)) = true then some (((0 : Int), ()), ((), ())) else (F129 k a0).bind fun r1 => some (((r1.1.1.size : Int), ()), ((), ())) := by kernel_rfl
theorem F118_eq (k : Nat) (a0 : Int) : F118 (k + 2) a0 =
    some (((a0 != a0), ()), ((), ())) := by kernel_rfl
theorem F119_eq (k : Nat) (a0_0 : Bool) (a0_1 : List Int) (a0_2 : Int) (a1_0 : Bool) (a1_1 : List Int) (a1_2 : Int) : F119 (k + 2) a0_0 a0_1 a0_2 a1_0 a1_1 a1_2 =
    (F156 k a0_0 a0_1 a0_2 (if a1_2 > a0_2 then a1_2 else a0_2)).bind fun r1 => (F156 k a1_0 a1_1 a1_2 (if a1_2 > a0_2 then a1_2 else a0_2)).bind fun r2 => (F158 k r2.1.1.1 r2.1.1.2.1).bind fun r3 => (F157 k r1.1.1.1 r1.1.1.2.1 r3.1.1.1 r3.1.1.2.1).bind fun r4 => (F159 k r4.1.1.1 r4.1.1.2.1).bind fun r5 => some ((r5.1.1, ()), (((), (), (), ()), ((), (), (), ()), ())) := by kernel_rfl
theorem F120_eq (k : Nat) (a0 : List Int) : F120 (k + 2) a0 =
    F120c3 k (0 : Int) a0 (a0.length : Int) (0 : Int) := by kernel_rfl
theorem F120c3_eq (k : Nat) (x3 : Int) (x6 : List Int) (x7 : Int) (x8 : Int) : F120c3 (k + 1) x3 x6 x7 x8 =
    if (decide (x8 < x7)) = true then if (decide (0 ≤ x8)) = true then (x6[x8.toNat]?).bind fun y1 => if (y1 != x3) = true then some ((y1, ()), ((), ())) else F120c3 k x3 x6 x7 (IntKind.i64.wrap (x8 + (1 : Int))) else none else some ((x3, ()), ((), ())) := by kernel_rfl
theorem F121_eq (k : Nat) (a0 : ByteArray) (a1 : ByteArray) : F121 (k + 1) a0 a1 = compareR (a0, a1, ()) := by kernel_rfl
theorem F122_eq (k : Nat) (a0_0 : Bool) (a0_1 : List Int) (a0_2 : Int) : F122 (k + 2) a0_0 a0_1 a0_2 =
    if (!a0_0) = true then if ((a0_1.length : Int) == (0 : Int)) = true then some (((a0_2 == (0 : Int)), ()), (((), (), (), ()), ())) else some ((false, ()), (((), (), (), ()), ())) else some ((false, ()), (((), (), (), ()), ())) := by kernel_rfl
theorem F123_eq (k : Nat) (a0_0 : Bool) (a0_1 : List Int) : F123 (k + 2) a0_0 a0_1 =
    if (decide ((a0_1.length : Int) > (16 : Int))) = true then some ((false, ()), (((), (), ()), ())) else if a0_0 = true then if ((a0_1.length : Int) == (0 : Int)) = true then some ((false, ()), (((), (), ()), ())) else F123c4 k a0_0 a0_1 (0 : Int) else F123c4 k a0_0 a0_1 (0 : Int) := by kernel_rfl
theorem F123c4_eq (k : Nat) (x1_0 : Bool) (x1_1 : List Int) (x3 : Int) : F123c4 (k + 1) x1_0 x1_1 x3 =
    if (decide (x3 < (x1_1.length : Int))) = true then if (decide (0 ≤ x3)) = true then (x1_1[x3.toNat]?).bind fun y1 => (F77 k y1 (0 : Int) (9999 : Int)).bind fun r2 => if (!r2.1.1) = true then some ((false, ()), (((), (), ()), ())) else F123c4 k x1_0 x1_1 (IntKind.i64.wrap (x3 + (1 : Int))) else none else if ((x1_1.length : Int) == (0 : Int)) = true then some ((true, ()), (((), (), ()), ())) else if (decide (0 ≤ (IntKind.i64.wrap ((x1_1.length : Int) - (1 : Int))))) = true then (x1_1[(IntKind.i64.wrap ((x1_1.length : Int) - (1 : Int))).toNat]?).bind fun y3 => some (((y3 != (0 : Int)), ()), (((), (), ()), ())) else none := by kernel_rfl
theorem F124_eq (k : Nat) (a0 : List Int) : F124 (k + 2) a0 =
    if ((a0.length : Int) == (0 : Int)) = true then some (((0 : Int), ()), ((), ())) else (F161 k a0).bind fun r1 => some (((r1.1.1.size : Int), ()), ((), ())) := by kernel_rfl
theorem F125_eq (k : Nat) (a0 : Bool) : F125 (k + 2) a0 =
    if a0 = true then some (((1 : Int), ()), ((), ())) else some (((0 : Int), ()), ((), ())) := by kernel_rfl
theorem F126_eq (k : Nat) (a0_0 : Bool) (a0_1 : List Int) (a0_2 : Int) (a1_0 : Bool) (a1_1 : List Int) (a1_2 : Int) : F126 (k + 2) a0_0 a0_1 a0_2 a1_0 a1_1 a1_2 =
    (F162 k a0_2 a1_2).bind fun r1 => (F163 k a0_0 a0_1 a0_2 r1.1.1).bind fun r2 => (F163 k a1_0 a1_1 a1_2 r1.1.1).bind fun r3 => (F164 k a0_0 r2.1.1 a1_0 r3.1.1).bind fun r4 => some ((r4.1.1, ()), (((), (), (), ()), ((), (), (), ()), ())) := by kernel_rfl
theorem F127_eq (k : Nat) (a0 : ByteArray) (a1 : ByteArray) : F127 (k + 2) a0 a1 =
    if (Op.bytesLess a0.toList a1.toList) = true then some (((-1 : Int), ()), ((), (), ())) else if (!(Op.bytesLess a0.toList a1.toList || a0.toList == a1.toList)) = true then some (((1 : Int), ()), ((), (), ())) else some (((0 : Int), ()), ((), (), ())) := by kernel_rfl
theorem F128_eq (k : Nat) (a0_0 : Bool) (a0_1 : List Int) (a0_2 : Int) : F128 (k + 2) a0_0 a0_1 a0_2 =
    (F71 k a0_0 a0_1 a0_2).bind fun r1 => if (!r1.1.1) = true then some (((false, ([] : List Int), (0 : Int), ()), ()), (((), (), (), ()), ())) else F128c4 k a0_0 a0_1 a0_2 false ([] : List Int) (0 : Int) a0_1 a0_2 := by kernel_rfl
theorem F128c4_eq (k : Nat) (x1_0 : Bool) (x1_1 : List Int) (x1_2 : Int) (x2_0 : Bool) (x2_1 : List Int) (x2_2 : Int) (x3 : List Int) (x4 : Int) : F128c4 (k + 1) x1_0 x1_1 x1_2 x2_0 x2_1 x2_2 x3 x4 =
    if (decide (x4 > (0 : Int))) = true then (F165 k x3 [(10 : Int)]).bind fun r2 => if (decide ((r2.1.2.1.length : Int) > (0 : Int))) = true then (F91 k x1_0 x3).bind fun r3 => some (((r3.1.1.1, r3.1.1.2.1, x4, ()), ()), (((), (), (), ()), ())) else F128c4 k x1_0 x1_1 x1_2 x2_0 x2_1 x2_2 r2.1.1 (IntKind.i64.wrap (x4 - (1 : Int))) else (F91 k x1_0 x3).bind fun r4 => some (((r4.1.1.1, r4.1.1.2.1, x4, ()), ()), (((), (), (), ()), ())) := by kernel_rfl
theorem F129_eq (k : Nat) (a0 : List Int) : F129 (k + 1) a0 = textR (a0, ()) := by kernel_rfl
theorem F130_eq (k : Nat) (a0 : ByteArray) (a1 : ByteArray) : F130 (k + 1) a0 a1 = trimR (a0, a1, ()) := by kernel_rfl
theorem F139_eq (k : Nat) (a0 : List Int) : F139 (k + 2) a0 =
    F139c1 k a0 := by kernel_rfl
theorem F139c1_eq (k : Nat) (x0 : List Int) : F139c1 (k + 1) x0 =
    if (decide ((x0.length : Int) > (0 : Int))) = true then if (decide (0 ≤ (IntKind.i64.wrap ((x0.length : Int) - (1 : Int))))) = true then (x0[(IntKind.i64.wrap ((x0.length : Int) - (1 : Int))).toNat]?).bind fun y1 => if (y1 == (0 : Int)) = true then if (decide (0 ≤ (IntKind.i64.wrap ((x0.length : Int) - (1 : Int)))) && decide ((IntKind.i64.wrap ((x0.length : Int) - (1 : Int))) ≤ (x0.length : Int))) = true then F139c1 k (slices x0 0 ((IntKind.i64.wrap ((x0.length : Int) - (1 : Int))).toNat)) else none else some ((x0, ()), ((), ())) else none else some ((x0, ()), ((), ())) := by kernel_rfl
theorem F140_eq (k : Nat) (a0 : List Int) : F140 (k + 2) a0 =
    (F179 k a0).bind fun r1 => (F178 k r1.1.1).bind fun r2 => some ((r2.1.1, ()), ((), ())) := by kernel_rfl
theorem F143_eq (k : Nat) (a0 : List Int) (a1 : List Int) : F143 (k + 2) a0 a1 =
    if ((a0.length : Int) != (a1.length : Int)) = true then some ((false, ()), ((), (), ())) else F143c4 k a0 a1 (0 : Int) := by kernel_rfl
theorem F143c4_eq (k : Nat) (x0 : List Int) (x1 : List Int) (x5 : Int) : F143c4 (k + 1) x0 x1 x5 =
    if (decide (x5 < (x0.length : Int))) = true then if (decide (0 ≤ x5)) = true then (x0[x5.toNat]?).bind fun y1 => if (decide (0 ≤ x5)) = true then (x1[x5.toNat]?).bind fun y2 => if (y1 != y2) = true then some ((false, ()), ((), (), ())) else F143c4 k x0 x1 (IntKind.i64.wrap (x5 + (1 : Int))) else none else none else some ((true, ()), ((), (), ())) := by kernel_rfl
theorem F146_eq (k : Nat) (a0_0 : Bool) (a0_1 : List Int) (a0_2 : Int) (a1_0 : Int) (a1_1 : Int) (a1_2 : Int) : F146 (k + 2) a0_0 a0_1 a0_2 a1_0 a1_1 a1_2 =
    (F186 k a0_0 a0_1 a0_2 a1_2 (5 : Int)).bind fun r1 => if (r1.1.2.1 != (0 : Int)) = true then some ((((0 : Int), false, false, ([] : List Int), (0 : Int), (0 : Int), (0 : Int), (0 : Int), ByteArray.empty, ()), (4 : Int), ()), (((), (), (), ()), ((), (), (), ()), ())) else (F124 k r1.1.1.2.1).bind fun r2 => if (decide (r2.1.1 > a1_1)) = true then some ((((0 : Int), false, false, ([] : List Int), (0 : Int), (0 : Int), (0 : Int), (0 : Int), ByteArray.empty, ()), (4 : Int), ()), (((), (), (), ()), ((), (), (), ()), ())) else (F111 k r1.1.1.1 r1.1.1.2.1 r1.1.1.2.2.1).bind fun r3 => some (((r3.1.1.1, r3.1.1.2.1, r3.1.1.2.2.1, r3.1.1.2.2.2.1, r3.1.1.2.2.2.2.1, r3.1.1.2.2.2.2.2.1, r3.1.1.2.2.2.2.2.2.1, r3.1.1.2.2.2.2.2.2.2.1, r3.1.1.2.2.2.2.2.2.2.2.1, ()), (0 : Int), ()), (((), (), (), ()), ((), (), (), ()), ())) := by kernel_rfl
theorem F147_eq (k : Nat) (a0_0 : List Int) (a0_1 : Int) (a1 : Int) : F147 (k + 2) a0_0 a0_1 a1 =
    (F52 k a0_0 a0_1 (64 : Int)).bind fun r1 => (F54 k r1.2.1.1 r1.2.1.2.1 [(0 : Int), (1 : Int), (1 : Int), (2 : Int), (3 : Int), (4 : Int), (5 : Int), (8 : Int), (9 : Int), (12 : Int), (17 : Int), (29 : Int), (30 : Int), (31 : Int), (33 : Int), (63 : Int), (64 : Int), (IntKind.i64.wrap ((1 : Int) + r1.1.1))]).bind fun r2 => if (decide (r2.1.1 > a1)) = true then (F52 k r2.2.1.1 r2.2.1.2.1 a1).bind fun r3 => F147c4 k r3.2.1.1 r3.2.1.2.1 false ([] : List Int) (IntKind.i64.wrap ((1 : Int) + r3.1.1)) else F147c4 k r2.2.1.1 r2.2.1.2.1 false ([] : List Int) r2.1.1 := by kernel_rfl
theorem F147c4_eq (k : Nat) (x0_0 : List Int) (x0_1 : Int) (x4_0 : Bool) (x4_1 : List Int) (x5 : Int) : F147c4 (k + 1) x0_0 x0_1 x4_0 x4_1 x5 =
    (F187 k x0_0 x0_1 x5).bind fun r4 => (F52 k r4.2.1.1 r4.2.1.2.1 (6 : Int)).bind fun r5 => if (r5.1.1 == (0 : Int)) = true then (F188 k (⟨#[48]⟩ : ByteArray) (IntKind.i64.wrap (x5 - (1 : Int)))).bind fun r6 => if (Nat.ble ((⟨#[49]⟩ : ByteArray).size + r6.1.1.size) 9223372036854775807) = true then F147c7 k r5.2.1.1 r5.2.1.2.1 x4_0 x4_1 x5 ((⟨#[49]⟩ : ByteArray) ++ r6.1.1) else none else F147c7 k r5.2.1.1 r5.2.1.2.1 x4_0 x4_1 x5 r4.1.1 := by kernel_rfl
theorem F147c7_eq (k : Nat) (x0_0 : List Int) (x0_1 : Int) (x4_0 : Bool) (x4_1 : List Int) (x5 : Int) (x6 : ByteArray) : F147c7 (k + 1) x0_0 x0_1 x4_0 x4_1 x5 x6 =
    (F52 k x0_0 x0_1 (6 : Int)).bind fun r7 => if (r7.1.1 == (0 : Int)) = true then (F188 k (⟨#[57]⟩ : ByteArray) x5).bind fun r8 => F147c9 k r7.2.1.1 r7.2.1.2.1 x4_0 x4_1 r8.1.1 else F147c9 k r7.2.1.1 r7.2.1.2.1 x4_0 x4_1 x6 := by kernel_rfl
theorem F147c9_eq (k : Nat) (x0_0 : List Int) (x0_1 : Int) (x4_0 : Bool) (x4_1 : List Int) (x6 : ByteArray) : F147c9 (k + 1) x0_0 x0_1 x4_0 x4_1 x6 =
    (F52 k x0_0 x0_1 (3 : Int)).bind fun r9 => (F190 k x6).bind fun r10 => (F189 k (r9.1.1 == (0 : Int)) r10.1.1).bind fun r11 => some (((r11.1.1.1, r11.1.1.2.1, ()), ()), ((r9.2.1.1, r9.2.1.2.1, ()), (), ())) := by kernel_rfl
theorem F148_eq (k : Nat) (a0_0 : List Int) (a0_1 : Int) : F148 (k + 2) a0_0 a0_1 =
    (F147 k a0_0 a0_1 (64 : Int)).bind fun r1 => (F52 k r1.2.1.1 r1.2.1.2.1 (30 : Int)).bind fun r2 => if (r2.1.1 == (0 : Int)) = true then if (decide (r1.1.1.2.1.length + [(0 : Int)].length ≤ 17592186044416)) = true then F148c12 k r2.2.1.1 r2.2.1.2.1 false ([] : List Int) r1.1.1.1 (r1.1.1.2.1 ++ [(0 : Int)]) else none else if (r2.1.1 == (1 : Int)) = true then (F54 k r2.2.1.1 r2.2.1.2.1 [(10000 : Int), (-1 : Int)]).bind fun r3 => if (decide (r1.1.1.2.1.length + [r3.1.1].length ≤ 17592186044416)) = true then F148c12 k r3.2.1.1 r3.2.1.2.1 false ([] : List Int) r1.1.1.1 (r1.1.1.2.1 ++ [r3.1.1]) else none else if (r2.1.1 == (2 : Int)) = true then some (((true, ([] : List Int), ()), ()), ((r2.2.1.1, r2.2.1.2.1, ()), ())) else if (r2.1.1 == (3 : Int)) = true then F148c10 k r2.2.1.1 r2.2.1.2.1 false ([] : List Int) r1.1.1.1 r1.1.1.2.1 else F148c12 k r2.2.1.1 r2.2.1.2.1 false ([] : List Int) r1.1.1.1 r1.1.1.2.1 := by kernel_rfl
theorem F148c12_eq (k : Nat) (x0_0 : List Int) (x0_1 : Int) (x2_0 : Bool) (x2_1 : List Int) (x3_0 : Bool) (x3_1 : List Int) : F148c12 (k + 1) x0_0 x0_1 x2_0 x2_1 x3_0 x3_1 =
    some (((x3_0, x3_1, ()), ()), ((x0_0, x0_1, ()), ())) := by kernel_rfl
theorem F148c10_eq (k : Nat) (x0_0 : List Int) (x0_1 : Int) (x2_0 : Bool) (x2_1 : List Int) (x3_0 : Bool) (x3_1 : List Int) : F148c10 (k + 1) x0_0 x0_1 x2_0 x2_1 x3_0 x3_1 =
    if (decide ((x3_1.length : Int) < (17 : Int))) = true then if (decide (x3_1.length + [(1 : Int)].length ≤ 17592186044416)) = true then F148c10 k x0_0 x0_1 x2_0 x2_1 x3_0 (x3_1 ++ [(1 : Int)]) else none else F148c12 k x0_0 x0_1 x2_0 x2_1 x3_0 x3_1 := by kernel_rfl
theorem F149_eq (k : Nat) (a0 : List Int) (a1 : Int) : F149 (k + 2) a0 a1 =
    if (decide ((IntKind.i64.wrap (a1 - (a0.length : Int))) < (0 : Int))) = true then some (((-1 : Int), ()), ((), (), ())) else some (((IntKind.i64.wrap (a1 - (a0.length : Int))), ()), ((), (), ())) := by kernel_rfl
theorem F150_eq (k : Nat) (a0_0 : Bool) (a0_1 : List Int) (a0_2 : Int) : F150 (k + 2) a0_0 a0_1 a0_2 =
    (F191 k a0_0 a0_1 a0_2).bind fun r1 => if ((r1.1.1.2.1.length : Int) == (0 : Int)) = true then some (((⟨#[128]⟩ : ByteArray), ()), (((), (), (), ()), ())) else (F161 k r1.1.1.2.1).bind fun r2 => F150c7 k a0_0 a0_1 a0_2 r2.1.1 (IntKind.i64.wrap ((r2.1.1.size : Int) - r1.1.1.2.2.1)) (r2.1.1.size : Int) := by kernel_rfl
theorem F150c7_eq (k : Nat) (x1_0 : Bool) (x1_1 : List Int) (x1_2 : Int) (x4 : ByteArray) (x5 : Int) (x6 : Int) : F150c7 (k + 1) x1_0 x1_1 x1_2 x4 x5 x6 =
    if (decide (0 ≤ (IntKind.i64.wrap (x6 - (1 : Int))))) = true then (x4[(IntKind.i64.wrap (x6 - (1 : Int))).toNat]?).bind fun u3 => if ((u3.toNat : Int) == (48 : Int)) = true then F150c7 k x1_0 x1_1 x1_2 x4 x5 (IntKind.i64.wrap (x6 - (1 : Int))) else if (decide (0 ≤ x6) && decide (x6 ≤ (x4.size : Int))) = true then (F192 k (x4.extract 0 x6.toNat)).bind fun r4 => if (Nat.ble ((bytesOf [(IntKind.u8.wrap (IntKind.i64.wrap ((64 : Int) + x5)))]).size + r4.1.1.size) 9223372036854775807) = true then if x1_0 = true then (F88 k ((bytesOf [(IntKind.u8.wrap (IntKind.i64.wrap ((64 : Int) + x5)))]) ++ r4.1.1)).bind fun r5 => if (Nat.ble ((⟨#[127]⟩ : ByteArray).size + r5.1.1.size) 9223372036854775807) = true then some ((((⟨#[127]⟩ : ByteArray) ++ r5.1.1), ()), (((), (), (), ()), ())) else none else if (Nat.ble ((⟨#[129]⟩ : ByteArray).size + ((bytesOf [(IntKind.u8.wrap (IntKind.i64.wrap ((64 : Int) + x5)))]) ++ r4.1.1).size) 9223372036854775807) = true then some ((((⟨#[129]⟩ : ByteArray) ++ ((bytesOf [(IntKind.u8.wrap (IntKind.i64.wrap ((64 : Int) + x5)))]) ++ r4.1.1)), ()), (((), (), (), ()), ())) else none else none else none else none := by kernel_rfl
theorem F151_eq (k : Nat) (a0 : Int) : F151 (k + 2) a0 =
    some (((bytesOf [(IntKind.u8.wrap (IntKind.i64.wrap (a0.tdiv (65536 : Int)))), (IntKind.u8.wrap ((IntKind.i64.wrap (a0.tdiv (256 : Int))).tmod (256 : Int))), (IntKind.u8.wrap (a0.tmod (256 : Int)))]), ()), ((), ())) := by kernel_rfl
theorem F152_eq (k : Nat) (a0 : List Int) : F152 (k + 2) a0 =
    if (decide (0 ≤ (a0.length : Int)) && decide ((a0.length : Int) ≤ (a0.length : Int)) && decide ((a0.length : Int) ≤ (17592186044416 : Int))) = true then F152c3 k a0 (List.replicate (a0.length : Int).toNat (0 : Int)) (0 : Int) else none := by kernel_rfl
theorem F152c3_eq (k : Nat) (x0 : List Int) (x3 : List Int) (x4 : Int) : F152c3 (k + 1) x0 x3 x4 =
    if (decide (x4 < (x0.length : Int))) = true then if (decide (0 ≤ x4)) = true then (x0[x4.toNat]?).bind fun y1 => if (decide (0 ≤ x4) && decide (x4 < (x3.length : Int))) = true then (x3[x4.toNat]?).bind fun y2 => F152c3 k x0 (x3.set x4.toNat y1) (IntKind.i64.wrap (x4 + (1 : Int))) else none else none else some ((x3, ()), ((), ())) := by kernel_rfl
theorem F153_eq (k : Nat) (a0 : Int) : F153 (k + 2) a0 =
    F153c3 k a0 false ([] : List Int) ([] : List Int) a0 := by kernel_rfl
theorem F153c3_eq (k : Nat) (x0 : Int) (x2_0 : Bool) (x2_1 : List Int) (x3 : List Int) (x4 : Int) : F153c3 (k + 1) x0 x2_0 x2_1 x3 x4 =
    if (x4 != (0 : Int)) = true then if (decide ((x4.tmod (10000 : Int)) < (0 : Int))) = true then F153c7 k x0 x2_0 x2_1 x3 x4 (IntKind.i64.wrap (0 - (x4.tmod (10000 : Int)))) else F153c7 k x0 x2_0 x2_1 x3 x4 (x4.tmod (10000 : Int)) else some (((decide (x0 < (0 : Int)), x3, ()), ()), ((), ())) := by kernel_rfl
theorem F153c7_eq (k : Nat) (x0 : Int) (x2_0 : Bool) (x2_1 : List Int) (x3 : List Int) (x4 : Int) (x5 : Int) : F153c7 (k + 1) x0 x2_0 x2_1 x3 x4 x5 =
    if (decide (x3.length + [x5].length ≤ 17592186044416)) = true then F153c3 k x0 x2_0 x2_1 (x3 ++ [x5]) (IntKind.i64.wrap (x4.tdiv (10000 : Int))) else none := by kernel_rfl
theorem F154_eq (k : Nat) (a0 : Int) (a1 : Int) (a2 : Int) : F154 (k + 2) a0 a1 a2 =
    (F193 k a0).bind fun r1 => F154c3 k a0 a1 (IntKind.i64.wrap (r1.1.1 + a2)) (1 : Int) := by kernel_rfl
theorem F154c3_eq (k : Nat) (x0 : Int) (x1 : Int) (x7 : Int) (x8 : Int) : F154c3 (k + 1) x0 x1 x7 x8 =
    if (decide (x8 < x1)) = true then (F194 k x0 x8).bind fun r2 => F154c3 k x0 x1 (IntKind.i64.wrap (x7 + r2.1.1)) (IntKind.i64.wrap (x8 + (1 : Int))) else some ((x7, ()), ((), (), (), ())) := by kernel_rfl
theorem F155_eq (k : Nat) (a0 : Int) : F155 (k + 2) a0 =
    (F40 k a0 (0 : Int) (9999 : Int)).bind fun r1 => some (((!r1.1.1), ()), ((), ())) := by kernel_rfl
theorem F156_eq (k : Nat) (a0_0 : Bool) (a0_1 : List Int) (a0_2 : Int) (a1 : Int) : F156 (k + 2) a0_0 a0_1 a0_2 a1 =
    (F195 k a0_0 a0_1).bind fun r1 => (F197 k (IntKind.i64.wrap (a1 - a0_2))).bind fun r2 => (F196 k r1.1.1.2.1 r2.1.1).bind fun r3 => some (((r1.1.1.1, r3.1.1, ()), ()), (((), (), (), ()), (), ())) := by kernel_rfl
theorem F157_eq (k : Nat) (a0_0 : Bool) (a0_1 : List Int) (a1_0 : Bool) (a1_1 : List Int) : F157 (k + 2) a0_0 a0_1 a1_0 a1_1 =
    if (a0_0 == a1_0) = true then (F198 k a0_1 a1_1).bind fun r1 => some (((a0_0, r1.1.1, ()), ()), (((), (), ()), ((), (), ()), ())) else (F199 k a0_1 a1_1).bind fun r2 => if (decide (r2.1.1 ≥ (0 : Int))) = true then (F200 k a0_1 a1_1).bind fun r3 => some (((a0_0, r3.1.1, ()), ()), (((), (), ()), ((), (), ()), ())) else (F200 k a1_1 a0_1).bind fun r4 => some (((a1_0, r4.1.1, ()), ()), (((), (), ()), ((), (), ()), ())) := by kernel_rfl
theorem F158_eq (k : Nat) (a0_0 : Bool) (a0_1 : List Int) : F158 (k + 2) a0_0 a0_1 =
    some ((((!a0_0), a0_1, ()), ()), (((), (), ()), ())) := by kernel_rfl
theorem F159_eq (k : Nat) (a0_0 : Bool) (a0_1 : List Int) : F159 (k + 2) a0_0 a0_1 =
    if ((a0_1.length : Int) == (0 : Int)) = true then some (((0 : Int), ()), (((), (), ()), ())) else if a0_0 = true then some (((-1 : Int), ()), (((), (), ()), ())) else some (((1 : Int), ()), (((), (), ()), ())) := by kernel_rfl
theorem F161_eq (k : Nat) (a0 : List Int) : F161 (k + 2) a0 =
    if ((a0.length : Int) == (0 : Int)) = true then some (((⟨#[48]⟩ : ByteArray), ()), ((), ())) else if (decide (0 ≤ (IntKind.i64.wrap ((a0.length : Int) - (1 : Int))))) = true then (a0[(IntKind.i64.wrap ((a0.length : Int) - (1 : Int))).toNat]?).bind fun y1 => (F202 k y1).bind fun r2 => F161c5 k a0 r2.1.1 (IntKind.i64.wrap ((a0.length : Int) - (2 : Int))) else none := by kernel_rfl
theorem F161c5_eq (k : Nat) (x0 : List Int) (x3 : ByteArray) (x4 : Int) : F161c5 (k + 1) x0 x3 x4 =
    if (decide (x4 ≥ (0 : Int))) = true then if (decide (0 ≤ x4)) = true then (x0[x4.toNat]?).bind fun y3 => (F203 k y3 (4 : Int)).bind fun r4 => if (Nat.ble (x3.size + r4.1.1.size) 9223372036854775807) = true then F161c5 k x0 (x3 ++ r4.1.1) (IntKind.i64.wrap (x4 - (1 : Int))) else none else none else some ((x3, ()), ((), ())) := by kernel_rfl
theorem F162_eq (k : Nat) (a0 : Int) (a1 : Int) : F162 (k + 2) a0 a1 =
    if (decide (a0 > a1)) = true then some ((a0, ()), ((), (), ())) else some ((a1, ()), ((), (), ())) := by kernel_rfl
theorem F163_eq (k : Nat) (a0_0 : Bool) (a0_1 : List Int) (a0_2 : Int) (a1 : Int) : F163 (k + 2) a0_0 a0_1 a0_2 a1 =
    (F205 k (IntKind.i64.wrap (a1 - a0_2))).bind fun r1 => (F204 k a0_1 r1.1.1).bind fun r2 => some ((r2.1.1, ()), (((), (), (), ()), (), ())) := by kernel_rfl
theorem F164_eq (k : Nat) (a0_0 : Bool) (a0_1 : List Int) (a1_0 : Bool) (a1_1 : List Int) : F164 (k + 2) a0_0 a0_1 a1_0 a1_1 =
    if (!(a0_0 == a1_0)) = true then if a0_0 = true then some (((-1 : Int), ()), (((), (), ()), ((), (), ()), ())) else some (((1 : Int), ()), (((), (), ()), ((), (), ()), ())) else if a0_0 = true then (F206 k a1_1 a0_1).bind fun r1 => some ((r1.1.1, ()), (((), (), ()), ((), (), ()), ())) else (F206 k a0_1 a1_1).bind fun r2 => some ((r2.1.1, ()), (((), (), ()), ((), (), ()), ())) := by kernel_rfl
theorem F165_eq (k : Nat) (a0 : List Int) (a1 : List Int) : F165 (k + 2) a0 a1 =
    if (decide (0 ≤ (a0.length : Int)) && decide ((a0.length : Int) ≤ (a0.length : Int)) && decide ((a0.length : Int) ≤ (17592186044416 : Int))) = true then if Nat.ble a0.length 1152921504606846976 = true then (backK (.int .i64) [.box [.v (.sl (.int .i64))], .box [.o (.int .i64) 3 true], .box [.v (.sl (.int .i64))]] (fun i x d1 => (F1018165 k i x d1.1.1 d1.2.1.1 d1.2.2.1.1).bind fun o3 => some o3.2.2.2) a0.reverse ((a1, ()), (List.replicate (a0.length : Int).toNat (0 : Int), ()), (([] : List Int), ()), ())).bind fun d2 => F165c15 k d2.2.1.1 d2.2.2.1.1 else none else none := by kernel_rfl
theorem F165c15_eq (k : Nat) (x6_0 : List Int) (x7_0 : List Int) : F165c15 (k + 1) x6_0 x7_0 =
    (F139 k x6_0).bind fun r4 => some ((r4.1.1, x7_0, ()), ((), (), ())) := by kernel_rfl
theorem F178_eq (k : Nat) (a0 : List Int) : F178 (k + 2) a0 =
    if ((a0.length : Int) == (a0.length : Int) && (a0.length : Int) == (a0.length : Int)) = true then some ((a0, ()), ((), ())) else none := by kernel_rfl
theorem F179_eq (k : Nat) (a0 : List Int) : F179 (k + 2) a0 =
    bothK (emptyL a0) (some ((([] : List Int), ()), ((), ()))) (if (decide (([] : List Int).length + a0.length ≤ 17592186044416)) = true then some (((([] : List Int) ++ a0), ()), ((), ())) else none) := by kernel_rfl
theorem F186_eq (k : Nat) (a0_0 : Bool) (a0_1 : List Int) (a0_2 : Int) (a1 : Int) (a2 : Int) : F186 (k + 2) a0_0 a0_1 a0_2 a1 a2 =
    if (decide (a1 ≥ a0_2)) = true then (F163 k a0_0 a0_1 a0_2 a1).bind fun r1 => (F222 k a0_0 r1.1.1 a1).bind fun r2 => some (((r2.1.1.1, r2.1.1.2.1, r2.1.1.2.2.1, ()), r2.1.2.1, ()), (((), (), (), ()), (), (), ())) else (F205 k (IntKind.i64.wrap (a0_2 - a1))).bind fun r3 => (F223 k a0_0 a0_1 r3.1.1 a2).bind fun r4 => (F222 k a0_0 r4.1.1 a1).bind fun r5 => some (((r5.1.1.1, r5.1.1.2.1, r5.1.1.2.2.1, ()), r5.1.2.1, ()), (((), (), (), ()), (), (), ())) := by kernel_rfl
theorem F187_eq (k : Nat) (a0_0 : List Int) (a0_1 : Int) (a1 : Int) : F187 (k + 2) a0_0 a0_1 a1 =
    if (decide (a1 < (1 : Int))) = true then some (((⟨#[48]⟩ : ByteArray), ()), ((a0_0, a0_1, ()), (), ())) else (F52 k a0_0 a0_1 (9 : Int)).bind fun r1 => F187c4 k r1.2.1.1 r1.2.1.2.1 a1 (bytesOf [(IntKind.u8.wrap (IntKind.i64.wrap ((49 : Int) + r1.1.1)))]) := by kernel_rfl
theorem F187c4_eq (k : Nat) (x0_0 : List Int) (x0_1 : Int) (x1 : Int) (x5 : ByteArray) : F187c4 (k + 1) x0_0 x0_1 x1 x5 =
    if (decide ((x5.size : Int) < x1)) = true then (F52 k x0_0 x0_1 (10 : Int)).bind fun r2 => (F54 k r2.2.1.1 r2.2.1.2.1 [(0 : Int), (0 : Int), (9 : Int), (9 : Int), (5 : Int), (1 : Int), r2.1.1]).bind fun r3 => if (Nat.ble (x5.size + (bytesOf [(IntKind.u8.wrap (IntKind.i64.wrap ((48 : Int) + r3.1.1)))]).size) 9223372036854775807) = true then F187c4 k r3.2.1.1 r3.2.1.2.1 x1 (x5 ++ (bytesOf [(IntKind.u8.wrap (IntKind.i64.wrap ((48 : Int) + r3.1.1)))])) else none else some ((x5, ()), ((x0_0, x0_1, ()), (), ())) := by kernel_rfl
theorem F188_eq (k : Nat) (a0 : ByteArray) (a1 : Int) : F188 (k + 2) a0 a1 =
    F188c2 k a0 a1 (⟨#[]⟩ : ByteArray) := by kernel_rfl
theorem F188c2_eq (k : Nat) (x0 : ByteArray) (x1 : Int) (x5 : ByteArray) : F188c2 (k + 1) x0 x1 x5 =
    if (decide (x1 > (0 : Int))) = true then if (Nat.ble (x5.size + x0.size) 9223372036854775807) = true then F188c2 k x0 (IntKind.i64.wrap (x1 - (1 : Int))) (x5 ++ x0) else none else some ((x5, ()), ((), (), ())) := by kernel_rfl
theorem F189_eq (k : Nat) (a0 : Bool) (a1 : List Int) : F189 (k + 2) a0 a1 =
    (F224 k a1).bind fun r1 => if (decide ((r1.1.1.length : Int) > (16 : Int))) = true then some (((false, ([] : List Int), ()), false, ()), ((), (), ())) else if a0 = true then some (((decide ((r1.1.1.length : Int) > (0 : Int)), r1.1.1, ()), true, ()), ((), (), ())) else some (((false, r1.1.1, ()), true, ()), ((), (), ())) := by kernel_rfl
theorem F190_eq (k : Nat) (a0 : ByteArray) : F190 (k + 2) a0 =
    F190c2 k a0 ([] : List Int) := by kernel_rfl
theorem F190c2_eq (k : Nat) (x0 : ByteArray) (x3 : List Int) : F190c2 (k + 1) x0 x3 =
    if (decide ((x0.size : Int) > (0 : Int))) = true then if (decide ((IntKind.i64.wrap ((x0.size : Int) - (4 : Int))) < (0 : Int))) = true then F190c6 k x0 x3 (0 : Int) else F190c6 k x0 x3 (IntKind.i64.wrap ((x0.size : Int) - (4 : Int))) else (F224 k x3).bind fun r1 => some ((r1.1.1, ()), ((), ())) := by kernel_rfl
theorem F190c6_eq (k : Nat) (x0 : ByteArray) (x3 : List Int) (x4 : Int) : F190c6 (k + 1) x0 x3 x4 =
    F190c8 k x0 x3 x4 (0 : Int) x4 := by kernel_rfl
theorem F190c8_eq (k : Nat) (x0 : ByteArray) (x3 : List Int) (x4 : Int) (x5 : Int) (x6 : Int) : F190c8 (k + 1) x0 x3 x4 x5 x6 =
    if (decide (x6 < (x0.size : Int))) = true then if (decide (0 ≤ x6)) = true then (x0[x6.toNat]?).bind fun u2 => F190c8 k x0 x3 x4 (IntKind.i64.wrap ((IntKind.i64.wrap (x5 * (10 : Int))) + (IntKind.i64.wrap (IntKind.u8.wrap ((u2.toNat : Int) - (48 : Int)))))) (IntKind.i64.wrap (x6 + (1 : Int))) else none else if (decide (x3.length + [x5].length ≤ 17592186044416)) = true then if (decide (0 ≤ x4) && decide (x4 ≤ (x0.size : Int))) = true then F190c2 k (x0.extract 0 x4.toNat) (x3 ++ [x5]) else none else none := by kernel_rfl
theorem F191_eq (k : Nat) (a0_0 : Bool) (a0_1 : List Int) (a0_2 : Int) : F191 (k + 2) a0_0 a0_1 a0_2 =
    F191c3 k a0_0 a0_1 a0_2 false ([] : List Int) (0 : Int) a0_1 a0_2 := by kernel_rfl
theorem F191c3_eq (k : Nat) (x1_0 : Bool) (x1_1 : List Int) (x1_2 : Int) (x2_0 : Bool) (x2_1 : List Int) (x2_2 : Int) (x3 : List Int) (x4 : Int) : F191c3 (k + 1) x1_0 x1_1 x1_2 x2_0 x2_1 x2_2 x3 x4 =
    if (decide (x4 > (0 : Int))) = true then (F225 k x3 [(10 : Int)]).bind fun r1 => if (decide ((r1.1.2.1.length : Int) > (0 : Int))) = true then (F224 k x3).bind fun r2 => some (((x1_0, r2.1.1, x4, ()), ()), (((), (), (), ()), ())) else F191c3 k x1_0 x1_1 x1_2 x2_0 x2_1 x2_2 r1.1.1 (IntKind.i64.wrap (x4 - (1 : Int))) else (F224 k x3).bind fun r3 => some (((x1_0, r3.1.1, (0 : Int), ()), ()), (((), (), (), ()), ())) := by kernel_rfl
theorem F192_eq (k : Nat) (a0 : ByteArray) : F192 (k + 2) a0 =
    if (decide (0 ≤ (IntKind.i64.wrap ((a0.size : Int) + (1 : Int)))) && decide ((IntKind.i64.wrap ((a0.size : Int) + (1 : Int))) ≤ (IntKind.i64.wrap ((a0.size : Int) + (1 : Int)))) && decide ((IntKind.i64.wrap ((a0.size : Int) + (1 : Int))) ≤ (140737488355328 : Int))) = true then F192c3 k a0 (List.replicate (IntKind.i64.wrap ((a0.size : Int) + (1 : Int))).toNat (0 : Int)) (0 : Int) else none := by kernel_rfl
theorem F192c3_eq (k : Nat) (x0 : ByteArray) (x3 : List Int) (x4 : Int) : F192c3 (k + 1) x0 x3 x4 =
    if (decide (x4 < (x0.size : Int))) = true then if (decide (0 ≤ x4)) = true then (x0[x4.toNat]?).bind fun u1 => if (decide (0 ≤ x4) && decide (x4 < (x3.length : Int))) = true then (x3[x4.toNat]?).bind fun y2 => F192c3 k x0 (x3.set x4.toNat (IntKind.u8.wrap ((IntKind.u8.wrap ((u1.toNat : Int) - (48 : Int))) + (1 : Int)))) (IntKind.i64.wrap (x4 + (1 : Int))) else none else none else some (((bytesOf x3), ()), ((), ())) := by kernel_rfl
theorem F193_eq (k : Nat) (a0 : Int) : F193 (k + 2) a0 =
    some (((IntKind.i64.wrap ((IntKind.i64.wrap ((IntKind.i64.wrap ((IntKind.i64.wrap ((365 : Int) * (IntKind.i64.wrap (a0 - (1 : Int))))) + (IntKind.i64.wrap ((IntKind.i64.wrap (a0 - (1 : Int))).tdiv (4 : Int))))) - (IntKind.i64.wrap ((IntKind.i64.wrap (a0 - (1 : Int))).tdiv (100 : Int))))) + (IntKind.i64.wrap ((IntKind.i64.wrap (a0 - (1 : Int))).tdiv (400 : Int))))), ()), ((), ())) := by kernel_rfl
theorem F194_eq (k : Nat) (a0 : Int) (a1 : Int) : F194 (k + 2) a0 a1 =
    if (a1 == (2 : Int)) = true then (F226 k a0).bind fun r1 => if r1.1.1 = true then some (((29 : Int), ()), ((), (), ())) else some (((28 : Int), ()), ((), (), ())) else if (a1 == (4 : Int)) = true then if (a1 == (4 : Int)) = true then some (((30 : Int), ()), ((), (), ())) else F194c11 k else if (a1 == (6 : Int)) = true then if (a1 == (6 : Int)) = true then some (((30 : Int), ()), ((), (), ())) else F194c11 k else if (a1 == (9 : Int)) = true then if (a1 == (9 : Int)) = true then some (((30 : Int), ()), ((), (), ())) else F194c11 k else if (a1 == (11 : Int)) = true then some (((30 : Int), ()), ((), (), ())) else F194c11 k := by kernel_rfl
theorem F194c11_eq (k : Nat) : F194c11 (k + 1) =
    some (((31 : Int), ()), ((), (), ())) := by kernel_rfl
theorem F195_eq (k : Nat) (a0_0 : Bool) (a0_1 : List Int) : F195 (k + 2) a0_0 a0_1 =
    some (((a0_0, a0_1, ()), ()), (((), (), ()), ())) := by kernel_rfl
theorem F196_eq (k : Nat) (a0 : List Int) (a1 : List Int) : F196 (k + 2) a0 a1 =
    if (decide (0 ≤ (IntKind.i64.wrap ((IntKind.i64.wrap ((a0.length : Int) + (a1.length : Int))) + (1 : Int)))) && decide ((IntKind.i64.wrap ((IntKind.i64.wrap ((a0.length : Int) + (a1.length : Int))) + (1 : Int))) ≤ (IntKind.i64.wrap ((IntKind.i64.wrap ((a0.length : Int) + (a1.length : Int))) + (1 : Int)))) && decide ((IntKind.i64.wrap ((IntKind.i64.wrap ((a0.length : Int) + (a1.length : Int))) + (1 : Int))) ≤ (17592186044416 : Int))) = true then F196c3 k a1 (List.replicate (IntKind.i64.wrap ((IntKind.i64.wrap ((a0.length : Int) + (a1.length : Int))) + (1 : Int))).toNat (0 : Int)) a0 (a0.length : Int) (0 : Int) else none := by kernel_rfl
theorem F196c3_eq (k : Nat) (x1 : List Int) (x5 : List Int) (x19 : List Int) (x20 : Int) (x21 : Int) : F196c3 (k + 1) x1 x5 x19 x20 x21 =
    if (decide (x21 < x20)) = true then if (decide (0 ≤ x21)) = true then (x19[x21.toNat]?).bind fun y1 => F196c7 k x1 x5 x21 y1 (0 : Int) x19 x20 x21 x1 (x1.length : Int) (0 : Int) else none else (F139 k x5).bind fun r2 => some ((r2.1.1, ()), ((), (), ())) := by kernel_rfl
theorem F196c7_eq (k : Nat) (x1 : List Int) (x5 : List Int) (x6 : Int) (x7 : Int) (x8 : Int) (x19 : List Int) (x20 : Int) (x21 : Int) (x26 : List Int) (x27 : Int) (x28 : Int) : F196c7 (k + 1) x1 x5 x6 x7 x8 x19 x20 x21 x26 x27 x28 =
    if (decide (x28 < x27)) = true then if (decide (0 ≤ x28)) = true then (x26[x28.toNat]?).bind fun y3 => if (decide (0 ≤ (IntKind.i64.wrap (x6 + x28))) && decide ((IntKind.i64.wrap (x6 + x28)) < (x5.length : Int))) = true then (x5[(IntKind.i64.wrap (x6 + x28)).toNat]?).bind fun y4 => if (decide (0 ≤ (IntKind.i64.wrap (x6 + x28))) && decide ((IntKind.i64.wrap (x6 + x28)) < (x5.length : Int))) = true then (x5[(IntKind.i64.wrap (x6 + x28)).toNat]?).bind fun y5 => F196c7 k x1 (x5.set ((IntKind.i64.wrap (x6 + x28)).toNat) ((IntKind.i64.wrap ((IntKind.i64.wrap (y4 + (IntKind.i64.wrap (x7 * y3)))) + x8)).tmod (10000 : Int))) x6 x7 (IntKind.i64.wrap ((IntKind.i64.wrap ((IntKind.i64.wrap (y4 + (IntKind.i64.wrap (x7 * y3)))) + x8)).tdiv (10000 : Int))) x19 x20 x21 x26 x27 (IntKind.i64.wrap (x28 + (1 : Int))) else none else none else none else if (decide (0 ≤ (IntKind.i64.wrap (x6 + (x1.length : Int)))) && decide ((IntKind.i64.wrap (x6 + (x1.length : Int))) < (x5.length : Int))) = true then (x5[(IntKind.i64.wrap (x6 + (x1.length : Int))).toNat]?).bind fun y6 => if (decide (0 ≤ (IntKind.i64.wrap (x6 + (x1.length : Int)))) && decide ((IntKind.i64.wrap (x6 + (x1.length : Int))) < (x5.length : Int))) = true then (x5[(IntKind.i64.wrap (x6 + (x1.length : Int))).toNat]?).bind fun y7 => F196c3 k x1 (x5.set ((IntKind.i64.wrap (x6 + (x1.length : Int))).toNat) (IntKind.i64.wrap (y6 + x8))) x19 x20 (IntKind.i64.wrap (x21 + (1 : Int))) else none else none := by kernel_rfl
theorem F197_eq (k : Nat) (a0 : Int) : F197 (k + 2) a0 =
    F197c3 k [(1 : Int)] a0 (0 : Int) := by kernel_rfl
theorem F197c3_eq (k : Nat) (x3 : List Int) (x5 : Int) (x6 : Int) : F197c3 (k + 1) x3 x5 x6 =
    if (decide (x6 < x5)) = true then (F196 k x3 [(10 : Int)]).bind fun r1 => F197c3 k r1.1.1 x5 (IntKind.i64.wrap (x6 + (1 : Int))) else some ((x3, ()), ((), ())) := by kernel_rfl
theorem F198_eq (k : Nat) (a0 : List Int) (a1 : List Int) : F198 (k + 2) a0 a1 =
    if (decide (0 ≤ (IntKind.i64.wrap ((if (a1.length : Int) > (a0.length : Int) then (a1.length : Int) else (a0.length : Int)) + (1 : Int)))) && decide ((IntKind.i64.wrap ((if (a1.length : Int) > (a0.length : Int) then (a1.length : Int) else (a0.length : Int)) + (1 : Int))) ≤ (IntKind.i64.wrap ((if (a1.length : Int) > (a0.length : Int) then (a1.length : Int) else (a0.length : Int)) + (1 : Int)))) && decide ((IntKind.i64.wrap ((if (a1.length : Int) > (a0.length : Int) then (a1.length : Int) else (a0.length : Int)) + (1 : Int))) ≤ (17592186044416 : Int))) = true then F198c4 k (a0.take (List.replicate (IntKind.i64.wrap ((if (a1.length : Int) > (a0.length : Int) then (a1.length : Int) else (a0.length : Int)) + (1 : Int))).toNat (0 : Int)).length ++ (List.replicate (IntKind.i64.wrap ((if (a1.length : Int) > (a0.length : Int) then (a1.length : Int) else (a0.length : Int)) + (1 : Int))).toNat (0 : Int)).drop a0.length) a1 (a1.length : Int) (0 : Int) else none := by kernel_rfl
theorem F198c4_eq (k : Nat) (x5 : List Int) (x19 : List Int) (x20 : Int) (x21 : Int) : F198c4 (k + 1) x5 x19 x20 x21 =
    if (decide (x21 < x20)) = true then if (decide (0 ≤ x21)) = true then (x19[x21.toNat]?).bind fun y1 => if (decide (0 ≤ x21) && decide (x21 < (x5.length : Int))) = true then (x5[x21.toNat]?).bind fun y2 => if (decide (0 ≤ x21) && decide (x21 < (x5.length : Int))) = true then (x5[x21.toNat]?).bind fun y3 => F198c4 k (x5.set x21.toNat (IntKind.i64.wrap (y2 + y1))) x19 x20 (IntKind.i64.wrap (x21 + (1 : Int))) else none else none else none else F198c9 k x5 (IntKind.i64.wrap ((x5.length : Int) - (1 : Int))) (0 : Int) := by kernel_rfl
theorem F198c9_eq (k : Nat) (x5 : List Int) (x36 : Int) (x37 : Int) : F198c9 (k + 1) x5 x36 x37 =
    if (decide (x37 < x36)) = true then if (decide (0 ≤ (IntKind.i64.wrap (x37 + (1 : Int)))) && decide ((IntKind.i64.wrap (x37 + (1 : Int))) < (x5.length : Int))) = true then (x5[(IntKind.i64.wrap (x37 + (1 : Int))).toNat]?).bind fun y4 => if (decide (0 ≤ x37) && decide (x37 < (x5.length : Int))) = true then (x5[x37.toNat]?).bind fun y5 => if (decide (0 ≤ (IntKind.i64.wrap (x37 + (1 : Int)))) && decide ((IntKind.i64.wrap (x37 + (1 : Int))) < (x5.length : Int))) = true then (x5[(IntKind.i64.wrap (x37 + (1 : Int))).toNat]?).bind fun y6 => if (decide (0 ≤ x37) && decide (x37 < ((x5.set ((IntKind.i64.wrap (x37 + (1 : Int))).toNat) (IntKind.i64.wrap (y4 + (IntKind.i64.wrap (y5.tdiv (10000 : Int)))))).length : Int))) = true then ((x5.set ((IntKind.i64.wrap (x37 + (1 : Int))).toNat) (IntKind.i64.wrap (y4 + (IntKind.i64.wrap (y5.tdiv (10000 : Int))))))[x37.toNat]?).bind fun y7 => if (decide (0 ≤ x37) && decide (x37 < ((x5.set ((IntKind.i64.wrap (x37 + (1 : Int))).toNat) (IntKind.i64.wrap (y4 + (IntKind.i64.wrap (y5.tdiv (10000 : Int)))))).length : Int))) = true then ((x5.set ((IntKind.i64.wrap (x37 + (1 : Int))).toNat) (IntKind.i64.wrap (y4 + (IntKind.i64.wrap (y5.tdiv (10000 : Int))))))[x37.toNat]?).bind fun y8 => F198c9 k ((x5.set ((IntKind.i64.wrap (x37 + (1 : Int))).toNat) (IntKind.i64.wrap (y4 + (IntKind.i64.wrap (y5.tdiv (10000 : Int)))))).set x37.toNat (y7.tmod (10000 : Int))) x36 (IntKind.i64.wrap (x37 + (1 : Int))) else none else none else none else none else none else (F139 k x5).bind fun r9 => some ((r9.1.1, ()), ((), (), ())) := by kernel_rfl
theorem F199_eq (k : Nat) (a0 : List Int) (a1 : List Int) : F199 (k + 2) a0 a1 =
    if ((a0.length : Int) != (a1.length : Int)) = true then some (((if (if (IntKind.i64.wrap ((a0.length : Int) - (a1.length : Int))) < (1 : Int) then (IntKind.i64.wrap ((a0.length : Int) - (a1.length : Int))) else (1 : Int)) > (-1 : Int) then (if (IntKind.i64.wrap ((a0.length : Int) - (a1.length : Int))) < (1 : Int) then (IntKind.i64.wrap ((a0.length : Int) - (a1.length : Int))) else (1 : Int)) else (-1 : Int)), ()), ((), (), ())) else F199c4 k a0 a1 (IntKind.i64.wrap ((a0.length : Int) - (1 : Int))) := by kernel_rfl
theorem F199c4_eq (k : Nat) (x0 : List Int) (x1 : List Int) (x5 : Int) : F199c4 (k + 1) x0 x1 x5 =
    if (decide (x5 ≥ (0 : Int))) = true then if (decide (0 ≤ x5)) = true then (x0[x5.toNat]?).bind fun y1 => if (decide (0 ≤ x5)) = true then (x1[x5.toNat]?).bind fun y2 => if (y1 != y2) = true then if (decide (0 ≤ x5)) = true then (x0[x5.toNat]?).bind fun y3 => if (decide (0 ≤ x5)) = true then (x1[x5.toNat]?).bind fun y4 => some (((if (if (IntKind.i64.wrap (y3 - y4)) < (1 : Int) then (IntKind.i64.wrap (y3 - y4)) else (1 : Int)) > (-1 : Int) then (if (IntKind.i64.wrap (y3 - y4)) < (1 : Int) then (IntKind.i64.wrap (y3 - y4)) else (1 : Int)) else (-1 : Int)), ()), ((), (), ())) else none else none else F199c4 k x0 x1 (IntKind.i64.wrap (x5 - (1 : Int))) else none else none else some (((0 : Int), ()), ((), (), ())) := by kernel_rfl
theorem F200_eq (k : Nat) (a0 : List Int) (a1 : List Int) : F200 (k + 2) a0 a1 =
    (F227 k a0).bind fun r1 => F200c3 k r1.1.1 a1 (a1.length : Int) (0 : Int) := by kernel_rfl
theorem F200c3_eq (k : Nat) (x5 : List Int) (x11 : List Int) (x12 : Int) (x13 : Int) : F200c3 (k + 1) x5 x11 x12 x13 =
    if (decide (x13 < x12)) = true then if (decide (0 ≤ x13)) = true then (x11[x13.toNat]?).bind fun y2 => if (decide (0 ≤ x13) && decide (x13 < (x5.length : Int))) = true then (x5[x13.toNat]?).bind fun y3 => if (decide (0 ≤ x13) && decide (x13 < (x5.length : Int))) = true then (x5[x13.toNat]?).bind fun y4 => F200c3 k (x5.set x13.toNat (IntKind.i64.wrap (y3 - y2))) x11 x12 (IntKind.i64.wrap (x13 + (1 : Int))) else none else none else none else F200c8 k x5 (x5.length : Int) (0 : Int) := by kernel_rfl
theorem F200c8_eq (k : Nat) (x5 : List Int) (x27 : Int) (x28 : Int) : F200c8 (k + 1) x5 x27 x28 =
    if (decide (x28 < x27)) = true then if (decide (0 ≤ x28) && decide (x28 < (x5.length : Int))) = true then (x5[x28.toNat]?).bind fun y5 => if (decide (y5 < (0 : Int))) = true then if (decide (0 ≤ x28) && decide (x28 < (x5.length : Int))) = true then (x5[x28.toNat]?).bind fun y6 => if (decide (0 ≤ x28) && decide (x28 < (x5.length : Int))) = true then (x5[x28.toNat]?).bind fun y7 => if (decide (0 ≤ (IntKind.i64.wrap (x28 + (1 : Int)))) && decide ((IntKind.i64.wrap (x28 + (1 : Int))) < ((x5.set x28.toNat (IntKind.i64.wrap (y6 + (10000 : Int)))).length : Int))) = true then ((x5.set x28.toNat (IntKind.i64.wrap (y6 + (10000 : Int))))[(IntKind.i64.wrap (x28 + (1 : Int))).toNat]?).bind fun y8 => if (decide (0 ≤ (IntKind.i64.wrap (x28 + (1 : Int)))) && decide ((IntKind.i64.wrap (x28 + (1 : Int))) < ((x5.set x28.toNat (IntKind.i64.wrap (y6 + (10000 : Int)))).length : Int))) = true then ((x5.set x28.toNat (IntKind.i64.wrap (y6 + (10000 : Int))))[(IntKind.i64.wrap (x28 + (1 : Int))).toNat]?).bind fun y9 => F200c13 k ((x5.set x28.toNat (IntKind.i64.wrap (y6 + (10000 : Int)))).set ((IntKind.i64.wrap (x28 + (1 : Int))).toNat) (IntKind.i64.wrap (y8 - (1 : Int)))) x27 x28 else none else none else none else none else F200c13 k x5 x27 x28 else none else (F139 k x5).bind fun r10 => some ((r10.1.1, ()), ((), (), ())) := by kernel_rfl
theorem F200c13_eq (k : Nat) (x5 : List Int) (x27 : Int) (x28 : Int) : F200c13 (k + 1) x5 x27 x28 =
    F200c8 k x5 x27 (IntKind.i64.wrap (x28 + (1 : Int))) := by kernel_rfl
theorem F202_eq (k : Nat) (a0 : Int) : F202 (k + 2) a0 =
    if (decide (a0 < (-9223372036854775807 : Int))) = true then some (((⟨#[45, 57, 50, 50, 51, 51, 55, 50, 48, 51, 54, 56, 53, 52, 55, 55, 53, 56, 48, 56]⟩ : ByteArray), ()), ((), ())) else if (decide (a0 < (0 : Int))) = true then (F202 k (IntKind.i64.wrap (0 - a0))).bind fun r1 => if (Nat.ble ((⟨#[45]⟩ : ByteArray).size + r1.1.1.size) 9223372036854775807) = true then some ((((⟨#[45]⟩ : ByteArray) ++ r1.1.1), ()), ((), ())) else none else if (decide (a0 < (10 : Int))) = true then some (((bytesOf [(IntKind.u8.wrap (IntKind.i64.wrap ((48 : Int) + a0)))]), ()), ((), ())) else (F202 k (IntKind.i64.wrap (a0.tdiv (10 : Int)))).bind fun r2 => if (Nat.ble (r2.1.1.size + (bytesOf [(IntKind.u8.wrap (IntKind.i64.wrap ((48 : Int) + (a0.tmod (10 : Int)))))]).size) 9223372036854775807) = true then some (((r2.1.1 ++ (bytesOf [(IntKind.u8.wrap (IntKind.i64.wrap ((48 : Int) + (a0.tmod (10 : Int)))))])), ()), ((), ())) else none := by kernel_rfl
theorem F203_eq (k : Nat) (a0 : Int) (a1 : Int) : F203 (k + 2) a0 a1 =
    (F202 k a0).bind fun r1 => F203c2 k a1 r1.1.1 := by kernel_rfl
theorem F203c2_eq (k : Nat) (x1 : Int) (x5 : ByteArray) : F203c2 (k + 1) x1 x5 =
    if (decide ((x5.size : Int) < x1)) = true then if (Nat.ble ((⟨#[48]⟩ : ByteArray).size + x5.size) 9223372036854775807) = true then F203c2 k x1 ((⟨#[48]⟩ : ByteArray) ++ x5) else none else some ((x5, ()), ((), (), ())) := by kernel_rfl
theorem F204_eq (k : Nat) (a0 : List Int) (a1 : List Int) : F204 (k + 2) a0 a1 =
    if (decide (0 ≤ (IntKind.i64.wrap ((a0.length : Int) + (a1.length : Int)))) && decide ((IntKind.i64.wrap ((a0.length : Int) + (a1.length : Int))) ≤ (IntKind.i64.wrap ((a0.length : Int) + (a1.length : Int)))) && decide ((IntKind.i64.wrap ((a0.length : Int) + (a1.length : Int))) ≤ (17592186044416 : Int))) = true then F204c3 k a0 a1 (List.replicate (IntKind.i64.wrap ((a0.length : Int) + (a1.length : Int))).toNat (0 : Int)) (0 : Int) else none := by kernel_rfl
theorem F204c3_eq (k : Nat) (x0 : List Int) (x1 : List Int) (x5 : List Int) (x6 : Int) : F204c3 (k + 1) x0 x1 x5 x6 =
    if (decide (x6 < (x0.length : Int))) = true then F204c7 k x0 x1 x5 x6 (0 : Int) (0 : Int) else (F224 k x5).bind fun r1 => some ((r1.1.1, ()), ((), (), ())) := by kernel_rfl
theorem F204c7_eq (k : Nat) (x0 : List Int) (x1 : List Int) (x5 : List Int) (x6 : Int) (x7 : Int) (x8 : Int) : F204c7 (k + 1) x0 x1 x5 x6 x7 x8 =
    if (decide (x8 < (x1.length : Int))) = true then if (decide (0 ≤ (IntKind.i64.wrap (x6 + x8))) && decide ((IntKind.i64.wrap (x6 + x8)) < (x5.length : Int))) = true then (x5[(IntKind.i64.wrap (x6 + x8)).toNat]?).bind fun y2 => if (decide (0 ≤ x6)) = true then (x0[x6.toNat]?).bind fun y3 => (F228 k x1 x8).bind fun r4 => if (decide (0 ≤ (IntKind.i64.wrap (x6 + x8))) && decide ((IntKind.i64.wrap (x6 + x8)) < (x5.length : Int))) = true then (x5[(IntKind.i64.wrap (x6 + x8)).toNat]?).bind fun y5 => F204c7 k x0 x1 (x5.set ((IntKind.i64.wrap (x6 + x8)).toNat) ((IntKind.i64.wrap ((IntKind.i64.wrap (y2 + (IntKind.i64.wrap (y3 * r4.1.1)))) + x7)).tmod (10000 : Int))) x6 (IntKind.i64.wrap ((IntKind.i64.wrap ((IntKind.i64.wrap (y2 + (IntKind.i64.wrap (y3 * r4.1.1)))) + x7)).tdiv (10000 : Int))) (IntKind.i64.wrap (x8 + (1 : Int))) else none else none else none else if (decide (x7 > (0 : Int))) = true then if (decide (0 ≤ (IntKind.i64.wrap (x6 + x8))) && decide ((IntKind.i64.wrap (x6 + x8)) < (x5.length : Int))) = true then (x5[(IntKind.i64.wrap (x6 + x8)).toNat]?).bind fun y6 => if (decide (0 ≤ x6)) = true then (x0[x6.toNat]?).bind fun y7 => (F228 k x1 x8).bind fun r8 => if (decide (0 ≤ (IntKind.i64.wrap (x6 + x8))) && decide ((IntKind.i64.wrap (x6 + x8)) < (x5.length : Int))) = true then (x5[(IntKind.i64.wrap (x6 + x8)).toNat]?).bind fun y9 => F204c7 k x0 x1 (x5.set ((IntKind.i64.wrap (x6 + x8)).toNat) ((IntKind.i64.wrap ((IntKind.i64.wrap (y6 + (IntKind.i64.wrap (y7 * r8.1.1)))) + x7)).tmod (10000 : Int))) x6 (IntKind.i64.wrap ((IntKind.i64.wrap ((IntKind.i64.wrap (y6 + (IntKind.i64.wrap (y7 * r8.1.1)))) + x7)).tdiv (10000 : Int))) (IntKind.i64.wrap (x8 + (1 : Int))) else none else none else none else F204c3 k x0 x1 x5 (IntKind.i64.wrap (x6 + (1 : Int))) := by kernel_rfl
theorem F205_eq (k : Nat) (a0 : Int) : F205 (k + 2) a0 =
    F205c2 k a0 ([] : List Int) := by kernel_rfl
theorem F205c2_eq (k : Nat) (x0 : Int) (x3 : List Int) : F205c2 (k + 1) x0 x3 =
    if (decide (x0 ≥ (4 : Int))) = true then if (decide (x3.length + [(0 : Int)].length ≤ 17592186044416)) = true then F205c2 k (IntKind.i64.wrap (x0 - (4 : Int))) (x3 ++ [(0 : Int)]) else none else F205c6 k x0 x3 (1 : Int) := by kernel_rfl
theorem F205c6_eq (k : Nat) (x0 : Int) (x3 : List Int) (x4 : Int) : F205c6 (k + 1) x0 x3 x4 =
    if (decide (x0 > (0 : Int))) = true then F205c6 k (IntKind.i64.wrap (x0 - (1 : Int))) x3 (IntKind.i64.wrap (x4 * (10 : Int))) else if (decide (x3.length + [x4].length ≤ 17592186044416)) = true then some (((x3 ++ [x4]), ()), ((), ())) else none := by kernel_rfl
theorem F206_eq (k : Nat) (a0 : List Int) (a1 : List Int) : F206 (k + 2) a0 a1 =
    if ((a0.length : Int) != (a1.length : Int)) = true then if (decide ((a0.length : Int) < (a1.length : Int))) = true then some (((-1 : Int), ()), ((), (), ())) else some (((1 : Int), ()), ((), (), ())) else F206c6 k a0 a1 (IntKind.i64.wrap ((a0.length : Int) - (1 : Int))) := by kernel_rfl
theorem F206c6_eq (k : Nat) (x0 : List Int) (x1 : List Int) (x5 : Int) : F206c6 (k + 1) x0 x1 x5 =
    if (decide (x5 ≥ (0 : Int))) = true then if (decide (0 ≤ x5)) = true then (x0[x5.toNat]?).bind fun y1 => if (decide (0 ≤ x5)) = true then (x1[x5.toNat]?).bind fun y2 => if (decide (y1 < y2)) = true then some (((-1 : Int), ()), ((), (), ())) else if (decide (0 ≤ x5)) = true then (x0[x5.toNat]?).bind fun y3 => if (decide (0 ≤ x5)) = true then (x1[x5.toNat]?).bind fun y4 => if (decide (y3 > y4)) = true then some (((1 : Int), ()), ((), (), ())) else F206c6 k x0 x1 (IntKind.i64.wrap (x5 - (1 : Int))) else none else none else none else none else some (((0 : Int), ()), ((), (), ())) := by kernel_rfl
theorem F207_eq (k : Nat) (a0 : Int) : F207 (k + 2) a0 =
    F207c2 k a0 ([] : List Int) := by kernel_rfl
theorem F207c2_eq (k : Nat) (x0 : Int) (x3 : List Int) : F207c2 (k + 1) x0 x3 =
    if (decide (x0 > (0 : Int))) = true then if (decide (x3.length + [(IntKind.i64.wrap (x0.tmod (10000 : Int)))].length ≤ 17592186044416)) = true then F207c2 k (IntKind.u64.wrap (x0.tdiv (10000 : Int))) (x3 ++ [(IntKind.i64.wrap (x0.tmod (10000 : Int)))]) else none else some ((x3, ()), ((), ())) := by kernel_rfl
theorem F222_eq (k : Nat) (a0 : Bool) (a1 : List Int) (a2 : Int) : F222 (k + 2) a0 a1 a2 =
    (F124 k a1).bind fun r1 => if (decide (r1.1.1 > (30 : Int))) = true then some (((false, ([] : List Int), (0 : Int), ()), (3 : Int), ()), ((), (), (), ())) else if a0 = true then some (((decide ((a1.length : Int) > (0 : Int)), a1, a2, ()), (0 : Int), ()), ((), (), (), ())) else some (((false, a1, a2, ()), (0 : Int), ()), ((), (), (), ())) := by kernel_rfl
theorem F223_eq (k : Nat) (a0 : Bool) (a1 : List Int) (a2 : List Int) (a3 : Int) : F223 (k + 2) a0 a1 a2 a3 =
    (F225 k a1 a2).bind fun r1 => if ((r1.1.2.1.length : Int) == (0 : Int)) = true then some ((r1.1.1, ()), ((), (), (), (), ())) else if (decide ((r1.1.1.length : Int) > (0 : Int))) = true then (r1.1.1[0]?).bind fun y2 => (F237 k r1.1.2.1 r1.1.2.1).bind fun r3 => (F206 k r3.1.1 a2).bind fun r4 => (F236 k a3 a0 ((y2.tmod (2 : Int)) == (1 : Int)) r4.1.1).bind fun r5 => if r5.1.1 = true then (F237 k r1.1.1 [(1 : Int)]).bind fun r6 => some ((r6.1.1, ()), ((), (), (), (), ())) else some ((r1.1.1, ()), ((), (), (), (), ())) else (F237 k r1.1.2.1 r1.1.2.1).bind fun r7 => (F206 k r7.1.1 a2).bind fun r8 => (F236 k a3 a0 false r8.1.1).bind fun r9 => if r9.1.1 = true then (F237 k r1.1.1 [(1 : Int)]).bind fun r10 => some ((r10.1.1, ()), ((), (), (), (), ())) else some ((r1.1.1, ()), ((), (), (), (), ())) := by kernel_rfl
theorem F224_eq (k : Nat) (a0 : List Int) : F224 (k + 2) a0 =
    F224c2 k a0 (a0.length : Int) := by kernel_rfl
theorem F224c2_eq (k : Nat) (x0 : List Int) (x3 : Int) : F224c2 (k + 1) x0 x3 =
    if (decide (x3 > (0 : Int))) = true then if (decide (0 ≤ (IntKind.i64.wrap (x3 - (1 : Int))))) = true then (x0[(IntKind.i64.wrap (x3 - (1 : Int))).toNat]?).bind fun y1 => if (y1 == (0 : Int)) = true then F224c2 k x0 (IntKind.i64.wrap (x3 - (1 : Int))) else if (decide (0 ≤ x3) && decide (x3 ≤ (x0.length : Int))) = true then if (decide (([] : List Int).length + (slices x0 0 x3.toNat).length ≤ 17592186044416)) = true then some (((([] : List Int) ++ (slices x0 0 x3.toNat)), ()), ((), ())) else none else none else none else if (decide (0 ≤ x3) && decide (x3 ≤ (x0.length : Int))) = true then if (decide (([] : List Int).length + (slices x0 0 x3.toNat).length ≤ 17592186044416)) = true then some (((([] : List Int) ++ (slices x0 0 x3.toNat)), ()), ((), ())) else none else none := by kernel_rfl
theorem F225_eq (k : Nat) (a0 : List Int) (a1 : List Int) : F225 (k + 2) a0 a1 =
    if (decide (0 ≤ (a0.length : Int)) && decide ((a0.length : Int) ≤ (a0.length : Int)) && decide ((a0.length : Int) ≤ (17592186044416 : Int))) = true then F225c4 k a0 a1 (List.replicate (a0.length : Int).toNat (0 : Int)) ([] : List Int) (IntKind.i64.wrap ((a0.length : Int) - (1 : Int))) else none := by kernel_rfl
theorem F225c4_eq (k : Nat) (x0 : List Int) (x1 : List Int) (x6 : List Int) (x7 : List Int) (x8 : Int) : F225c4 (k + 1) x0 x1 x6 x7 x8 =
    if (decide (x8 ≥ (0 : Int))) = true then if (decide (0 ≤ x8)) = true then (x0[x8.toNat]?).bind fun y1 => if (decide ([y1].length + x7.length ≤ 17592186044416)) = true then (F224 k ([y1] ++ x7)).bind fun r2 => (F238 k r2.1.1 x1).bind fun r3 => if (decide (0 ≤ x8) && decide (x8 < (x6.length : Int))) = true then (x6[x8.toNat]?).bind fun y4 => (F224 k [r3.1.1]).bind fun r5 => (F204 k x1 r5.1.1).bind fun r6 => (F239 k r2.1.1 r6.1.1).bind fun r7 => F225c4 k x0 x1 (x6.set x8.toNat r3.1.1) r7.1.1 (IntKind.i64.wrap (x8 - (1 : Int))) else none else none else none else (F224 k x6).bind fun r8 => some ((r8.1.1, x7, ()), ((), (), ())) := by kernel_rfl
theorem F226_eq (k : Nat) (a0 : Int) : F226 (k + 2) a0 =
    if ((a0.tmod (4 : Int)) == (0 : Int)) = true then if ((a0.tmod (100 : Int)) != (0 : Int)) = true then some ((true, ()), ((), ())) else some ((((a0.tmod (400 : Int)) == (0 : Int)), ()), ((), ())) else some ((((a0.tmod (400 : Int)) == (0 : Int)), ()), ((), ())) := by kernel_rfl
theorem F227_eq (k : Nat) (a0 : List Int) : F227 (k + 2) a0 =
    bothK (emptyL a0) (some ((([] : List Int), ()), ((), ()))) (if (decide (([] : List Int).length + a0.length ≤ 17592186044416)) = true then some (((([] : List Int) ++ a0), ()), ((), ())) else none) := by kernel_rfl
theorem F228_eq (k : Nat) (a0 : List Int) (a1 : Int) : F228 (k + 2) a0 a1 =
    if (decide (a1 < (a0.length : Int))) = true then if (decide (0 ≤ a1)) = true then (a0[a1.toNat]?).bind fun y1 => some ((y1, ()), ((), (), ())) else none else some (((0 : Int), ()), ((), (), ())) := by kernel_rfl
theorem F236_eq (k : Nat) (a0 : Int) (a1 : Bool) (a2 : Bool) (a3 : Int) : F236 (k + 2) a0 a1 a2 a3 =
    if (a0 == (1 : Int)) = true then some ((true, ()), ((), (), (), (), ())) else if (a0 == (2 : Int)) = true then some ((false, ()), ((), (), (), (), ())) else if (a0 == (3 : Int)) = true then some (((!a1), ()), ((), (), (), (), ())) else if (a0 == (4 : Int)) = true then some ((a1, ()), ((), (), (), (), ())) else if (a0 == (5 : Int)) = true then some ((decide (a3 ≥ (0 : Int)), ()), ((), (), (), (), ())) else if (a0 == (6 : Int)) = true then some ((decide (a3 > (0 : Int)), ()), ((), (), (), (), ())) else if (decide (a3 > (0 : Int))) = true then some ((true, ()), ((), (), (), (), ())) else if (a3 == (0 : Int)) = true then some ((a2, ()), ((), (), (), (), ())) else some ((false, ()), ((), (), (), (), ())) := by kernel_rfl
theorem F237_eq (k : Nat) (a0 : List Int) (a1 : List Int) : F237 (k + 2) a0 a1 =
    F237c4 k a0 a1 ([] : List Int) (0 : Int) (0 : Int) := by kernel_rfl
theorem F237c4_eq (k : Nat) (x0 : List Int) (x1 : List Int) (x5 : List Int) (x6 : Int) (x7 : Int) : F237c4 (k + 1) x0 x1 x5 x6 x7 =
    if (decide (x7 < (x0.length : Int))) = true then (F228 k x0 x7).bind fun r1 => (F228 k x1 x7).bind fun r2 => if (decide (x5.length + [((IntKind.i64.wrap ((IntKind.i64.wrap (r1.1.1 + r2.1.1)) + x6)).tmod (10000 : Int))].length ≤ 17592186044416)) = true then F237c4 k x0 x1 (x5 ++ [((IntKind.i64.wrap ((IntKind.i64.wrap (r1.1.1 + r2.1.1)) + x6)).tmod (10000 : Int))]) (IntKind.i64.wrap ((IntKind.i64.wrap ((IntKind.i64.wrap (r1.1.1 + r2.1.1)) + x6)).tdiv (10000 : Int))) (IntKind.i64.wrap (x7 + (1 : Int))) else none else if (decide (x7 < (x1.length : Int))) = true then (F228 k x0 x7).bind fun r3 => (F228 k x1 x7).bind fun r4 => if (decide (x5.length + [((IntKind.i64.wrap ((IntKind.i64.wrap (r3.1.1 + r4.1.1)) + x6)).tmod (10000 : Int))].length ≤ 17592186044416)) = true then F237c4 k x0 x1 (x5 ++ [((IntKind.i64.wrap ((IntKind.i64.wrap (r3.1.1 + r4.1.1)) + x6)).tmod (10000 : Int))]) (IntKind.i64.wrap ((IntKind.i64.wrap ((IntKind.i64.wrap (r3.1.1 + r4.1.1)) + x6)).tdiv (10000 : Int))) (IntKind.i64.wrap (x7 + (1 : Int))) else none else if (decide (x6 > (0 : Int))) = true then (F228 k x0 x7).bind fun r5 => (F228 k x1 x7).bind fun r6 => if (decide (x5.length + [((IntKind.i64.wrap ((IntKind.i64.wrap (r5.1.1 + r6.1.1)) + x6)).tmod (10000 : Int))].length ≤ 17592186044416)) = true then F237c4 k x0 x1 (x5 ++ [((IntKind.i64.wrap ((IntKind.i64.wrap (r5.1.1 + r6.1.1)) + x6)).tmod (10000 : Int))]) (IntKind.i64.wrap ((IntKind.i64.wrap ((IntKind.i64.wrap (r5.1.1 + r6.1.1)) + x6)).tdiv (10000 : Int))) (IntKind.i64.wrap (x7 + (1 : Int))) else none else (F224 k x5).bind fun r7 => some ((r7.1.1, ()), ((), (), ())) := by kernel_rfl
theorem F238_eq (k : Nat) (a0 : List Int) (a1 : List Int) : F238 (k + 2) a0 a1 =
    F238c3 k a0 a1 (0 : Int) (10000 : Int) := by kernel_rfl
theorem F238c3_eq (k : Nat) (x0 : List Int) (x1 : List Int) (x5 : Int) (x6 : Int) : F238c3 (k + 1) x0 x1 x5 x6 =
    if (decide ((IntKind.i64.wrap (x6 - x5)) > (1 : Int))) = true then (F204 k x1 [(IntKind.i64.wrap ((IntKind.i64.wrap (x5 + x6)).tdiv (2 : Int)))]).bind fun r1 => (F206 k r1.1.1 x0).bind fun r2 => if (decide (r2.1.1 ≤ (0 : Int))) = true then F238c3 k x0 x1 (IntKind.i64.wrap ((IntKind.i64.wrap (x5 + x6)).tdiv (2 : Int))) x6 else F238c3 k x0 x1 x5 (IntKind.i64.wrap ((IntKind.i64.wrap (x5 + x6)).tdiv (2 : Int))) else some ((x5, ()), ((), (), ())) := by kernel_rfl
theorem F239_eq (k : Nat) (a0 : List Int) (a1 : List Int) : F239 (k + 2) a0 a1 =
    F239c4 k a0 a1 ([] : List Int) (0 : Int) (0 : Int) := by kernel_rfl
theorem F239c4_eq (k : Nat) (x0 : List Int) (x1 : List Int) (x5 : List Int) (x6 : Int) (x7 : Int) : F239c4 (k + 1) x0 x1 x5 x6 x7 =
    if (decide (x7 < (x0.length : Int))) = true then if (decide (0 ≤ x7)) = true then (x0[x7.toNat]?).bind fun y1 => (F228 k x1 x7).bind fun r2 => if (decide ((IntKind.i64.wrap ((IntKind.i64.wrap (y1 - r2.1.1)) - x6)) < (0 : Int))) = true then F239c11 k x0 x1 x5 (1 : Int) x7 (IntKind.i64.wrap ((IntKind.i64.wrap ((IntKind.i64.wrap (y1 - r2.1.1)) - x6)) + (10000 : Int))) else F239c11 k x0 x1 x5 (0 : Int) x7 (IntKind.i64.wrap ((IntKind.i64.wrap (y1 - r2.1.1)) - x6)) else none else (F224 k x5).bind fun r3 => some ((r3.1.1, ()), ((), (), ())) := by kernel_rfl
theorem F239c11_eq (k : Nat) (x0 : List Int) (x1 : List Int) (x5 : List Int) (x6 : Int) (x7 : Int) (x8 : Int) : F239c11 (k + 1) x0 x1 x5 x6 x7 x8 =
    if (decide (x5.length + [x8].length ≤ 17592186044416)) = true then F239c4 k x0 x1 (x5 ++ [x8]) x6 (IntKind.i64.wrap (x7 + (1 : Int))) else none := by kernel_rfl
theorem F57057_eq (k : Nat) (a0 : List (Int × Bool × Bool × (List Int) × Int × Int × Int × Int × ByteArray × Unit)) : F57057 (k + 2) a0 =
    (F57105 k a0).bind fun r1 => some ((decide (r1.1.1 ≥ (0 : Int)), ()), ((), (), ())) := by kernel_rfl
theorem F57105_eq (k : Nat) (a0 : List (Int × Bool × Bool × (List Int) × Int × Int × Int × Int × ByteArray × Unit)) : F57105 (k + 2) a0 =
    F57105c2 k a0 (a0.length : Int) (0 : Int) := by kernel_rfl
theorem F57105c2_eq (k : Nat) (x0 : List (Int × Bool × Bool × (List Int) × Int × Int × Int × Int × ByteArray × Unit)) (x7 : Int) (x8 : Int) : F57105c2 (k + 1) x0 x7 x8 =
    if (decide (x8 < x7)) = true then if (decide (0 ≤ x8)) = true then (x0[x8.toNat]?).bind fun y1 => (F56 k y1.1 y1.2.1 y1.2.2.1 y1.2.2.2.1 y1.2.2.2.2.1 y1.2.2.2.2.2.1 y1.2.2.2.2.2.2.1 y1.2.2.2.2.2.2.2.1 y1.2.2.2.2.2.2.2.2.1).bind fun r2 => if r2.1.1 = true then some ((x8, ()), ((), (), ())) else F57105c2 k x0 x7 (IntKind.i64.wrap (x8 + (1 : Int))) else none else some (((-1 : Int), ()), ((), (), ())) := by kernel_rfl
theorem F60058_eq (k : Nat) (a0 : List Int) (a1_0 : List (Int × Bool × Bool × (List Int) × Int × Int × Int × Int × ByteArray × Unit)) : F60058 (k + 2) a0 a1_0 =
    (F60106 k a0 a1_0).bind fun r1 => some ((decide (r1.1.1 ≥ (0 : Int)), ()), ((), ((), ()), ())) := by kernel_rfl
theorem F60106_eq (k : Nat) (a0 : List Int) (a1_0 : List (Int × Bool × Bool × (List Int) × Int × Int × Int × Int × ByteArray × Unit)) : F60106 (k + 2) a0 a1_0 =
    F60106c2 k a0 a1_0 (a0.length : Int) (0 : Int) := by kernel_rfl
theorem F60106c2_eq (k : Nat) (x0 : List Int) (x1_0 : List (Int × Bool × Bool × (List Int) × Int × Int × Int × Int × ByteArray × Unit)) (x7 : Int) (x8 : Int) : F60106c2 (k + 1) x0 x1_0 x7 x8 =
    if (decide (x8 < x7)) = true then if (decide (0 ≤ x8)) = true then (x0[x8.toNat]?).bind fun y1 => (F59 k y1 x1_0).bind fun r2 => if r2.1.1 = true then some ((x8, ()), ((), ((), ()), ())) else F60106c2 k x0 x1_0 x7 (IntKind.i64.wrap (x8 + (1 : Int))) else none else some (((-1 : Int), ()), ((), ((), ()), ())) := by kernel_rfl
theorem F156058_eq (k : Nat) (a0 : List Int) : F156058 (k + 2) a0 =
    (F156106 k a0).bind fun r1 => some ((decide (r1.1.1 ≥ (0 : Int)), ()), ((), (), ())) := by kernel_rfl
theorem F156106_eq (k : Nat) (a0 : List Int) : F156106 (k + 2) a0 =
    F156106c2 k a0 (a0.length : Int) (0 : Int) := by kernel_rfl
theorem F156106c2_eq (k : Nat) (x0 : List Int) (x7 : Int) (x8 : Int) : F156106c2 (k + 1) x0 x7 x8 =
    if (decide (x8 < x7)) = true then if (decide (0 ≤ x8)) = true then (x0[x8.toNat]?).bind fun y1 => (F155 k y1).bind fun r2 => if r2.1.1 = true then some ((x8, ()), ((), (), ())) else F156106c2 k x0 x7 (IntKind.i64.wrap (x8 + (1 : Int))) else none else some (((-1 : Int), ()), ((), (), ())) := by kernel_rfl
theorem F1018165_eq (k : Nat) (a0 : Int) (a1 : Int) (a2_0 : List Int) (a3_0 : List Int) (a4_0 : List Int) : F1018165 (k + 1) a0 a1 a2_0 a3_0 a4_0 =
    if (decide ([a1].length + a4_0.length ≤ 17592186044416)) = true then (F139 k ([a1] ++ a4_0)).bind fun r1 => F1018165c8 k a2_0 a3_0 r1.1.1 a0 (0 : Int) (9999 : Int) else none := by kernel_rfl
theorem F1018165c8_eq (k : Nat) (x3_0 : List Int) (x6_0 : List Int) (x7_0 : List Int) (x8 : Int) (x10 : Int) (x11 : Int) : F1018165c8 (k + 1) x3_0 x6_0 x7_0 x8 x10 x11 =
    if (decide (x10 < x11)) = true then (F207 k (IntKind.u64.wrap (IntKind.i64.wrap ((IntKind.i64.wrap ((IntKind.i64.wrap (x10 + x11)) + (1 : Int))).tdiv (2 : Int))))).bind fun r2 => (F196 k x3_0 r2.1.1).bind fun r3 => (F199 k r3.1.1 x7_0).bind fun r4 => if (decide (r4.1.1 ≤ (0 : Int))) = true then F1018165c8 k x3_0 x6_0 x7_0 x8 (IntKind.i64.wrap ((IntKind.i64.wrap ((IntKind.i64.wrap (x10 + x11)) + (1 : Int))).tdiv (2 : Int))) x11 else F1018165c8 k x3_0 x6_0 x7_0 x8 x10 (IntKind.i64.wrap ((IntKind.i64.wrap ((IntKind.i64.wrap ((IntKind.i64.wrap (x10 + x11)) + (1 : Int))).tdiv (2 : Int))) - (1 : Int))) else if (decide (0 ≤ x8) && decide (x8 < (x6_0.length : Int))) = true then (x6_0[x8.toNat]?).bind fun y5 => (F207 k (IntKind.u64.wrap x10)).bind fun r6 => (F196 k x3_0 r6.1.1).bind fun r7 => (F200 k x7_0 r7.1.1).bind fun r8 => some ((), ((), (), (x3_0, ()), (x6_0.set x8.toNat x10, ()), (r8.1.1, ()), ())) else none := by kernel_rfl
end Go.Proofs.YtiojgdjpigcgaaaGreatDoor.R
end

section
/-! Rf: what is to be shown of a law, with no machine in sight. -/
set_option autoImplicit false
namespace Go.Proofs.YtiojgdjpigcgaaaGreatDoor.R
open Go.Rf
def PureFnKeyRows : Prop := ∀ (a0 : List Int), wfT (.sl (.int .u8)) a0 → ∃ k p, F5 k a0 = some ((true, ()), p)
end Go.Proofs.YtiojgdjpigcgaaaGreatDoor.R
end

section
namespace Go.Proofs
open Go.Shelf
def Tryz.lays169_ren : Go.Shelf.Ren := ⟨fun | 169 => 138 | n => n, fun | 70 => 148 | 9 => 9 | 0 => 0 | 72 => 150 | 37 => 22 | 127 => 195 | 3 => 3 | 5 => 5 | n => n, fun | n => n⟩
theorem Tryz.lays169 : Go.Proofs.Lays.n169 Tryz.prog Tryz.lays169_ren := {
  mixed := by kernel_rfl
  f169 := Tryz.func138.trans (congrArg some (by kernel_rfl))
  t0 := Tryz.underlying0
  a0 := Tryz.isAgg0
  z0 := Tryz.sizeOf0
  v0 := Tryz.zeroValue0
  t3 := Tryz.underlying3
  a3 := Tryz.isAgg3
  z3 := Tryz.sizeOf3
  v3 := Tryz.zeroValue3
  t9 := Tryz.underlying9
  a9 := Tryz.isAgg9
  z9 := Tryz.sizeOf9
  v9 := Tryz.zeroValue9
  t37 := Tryz.underlying22
  a37 := Tryz.isAgg22
  z37 := Tryz.sizeOf22
  v37 := Tryz.zeroValue22
  t70 := Tryz.underlying148
  a70 := Tryz.isAgg148
  z70 := Tryz.sizeOf148
  v70 := Tryz.zeroValue148
  t72 := Tryz.underlying150
  a72 := Tryz.isAgg150
  z72 := Tryz.sizeOf150
  v72 := Tryz.zeroValue150
  t127 := Tryz.underlying195
  a127 := Tryz.isAgg195
  z127 := Tryz.sizeOf195
  v127 := Tryz.zeroValue195 }
theorem Tryz.Builder_Extra_169 : Builder.Extra Tryz.prog Tryz.lays169_ren := {
  sizeBuilder := by kernel_rfl
  liesBuilder := by kernel_rfl
  t5 := Tryz.underlying5
  a5 := Tryz.isAgg5
  z5 := Tryz.sizeOf5
  v5 := Tryz.zeroValue5
  infoByte := by kernel_rfl
  cellsByte := by kernel_rfl
  sizeByte := by kernel_rfl
  neB5 := by decide }
def Tryz.lays162_ren : Go.Shelf.Ren := ⟨fun | 162 => 130 | 232 => 168 | 227 => 169 | 234 => 170 | 236 => 171 | 228 => 210 | 271 => 211 | 151 => 212 | 120 => 230 | 197 => 231 | 152 => 232 | 260 => 244 | 137 => 245 | 119 => 246 | 224 => 184 | 225 => 183 | 217 => 182 | 266 => 220 | n => n, fun | 9 => 9 | 4 => 4 | 3 => 3 | 5 => 5 | 117 => 183 | 116 => 182 | 0 => 0 | 124 => 186 | 21 => 21 | 105 => 212 | 46 => 113 | 119 => 249 | 139 => 252 | 138 => 251 | n => n, fun | 3 => 4 | 4 => 5 | n => n⟩
theorem Tryz.lays162 : Go.Proofs.Lays.n162 Tryz.prog Tryz.lays162_ren := {
  mixed := by kernel_rfl
  f119 := Tryz.func246.trans (congrArg some (by kernel_rfl))
  f120 := Tryz.func230.trans (congrArg some (by kernel_rfl))
  f137 := Tryz.func245.trans (congrArg some (by kernel_rfl))
  f151 := Tryz.func212.trans (congrArg some (by kernel_rfl))
  f152 := Tryz.func232.trans (congrArg some (by kernel_rfl))
  f162 := Tryz.func130.trans (congrArg some (by kernel_rfl))
  f197 := Tryz.func231.trans (congrArg some (by kernel_rfl))
  f217 := Tryz.func182.trans (congrArg some (by kernel_rfl))
  f224 := Tryz.func184.trans (congrArg some (by kernel_rfl))
  f225 := Tryz.func183.trans (congrArg some (by kernel_rfl))
  f227 := Tryz.func169.trans (congrArg some (by kernel_rfl))
  f228 := Tryz.func210.trans (congrArg some (by kernel_rfl))
  f232 := Tryz.func168.trans (congrArg some (by kernel_rfl))
  f234 := Tryz.func170.trans (congrArg some (by kernel_rfl))
  f236 := Tryz.func171.trans (congrArg some (by kernel_rfl))
  f260 := Tryz.func244.trans (congrArg some (by kernel_rfl))
  f266 := Tryz.func220.trans (congrArg some (by kernel_rfl))
  f271 := Tryz.func211.trans (congrArg some (by kernel_rfl))
  t0 := Tryz.underlying0
  a0 := Tryz.isAgg0
  z0 := Tryz.sizeOf0
  v0 := Tryz.zeroValue0
  t3 := Tryz.underlying3
  a3 := Tryz.isAgg3
  z3 := Tryz.sizeOf3
  v3 := Tryz.zeroValue3
  t4 := Tryz.underlying4
  a4 := Tryz.isAgg4
  z4 := Tryz.sizeOf4
  v4 := Tryz.zeroValue4
  t5 := Tryz.underlying5
  a5 := Tryz.isAgg5
  z5 := Tryz.sizeOf5
  v5 := Tryz.zeroValue5
  t9 := Tryz.underlying9
  a9 := Tryz.isAgg9
  z9 := Tryz.sizeOf9
  v9 := Tryz.zeroValue9
  t21 := Tryz.underlying21
  a21 := Tryz.isAgg21
  z21 := Tryz.sizeOf21
  v21 := Tryz.zeroValue21
  t46 := Tryz.underlying113
  a46 := Tryz.isAgg113
  z46 := Tryz.sizeOf113
  v46 := Tryz.zeroValue113
  t105 := Tryz.underlying212
  a105 := Tryz.isAgg212
  z105 := Tryz.sizeOf212
  v105 := Tryz.zeroValue212
  t116 := Tryz.underlying182
  a116 := Tryz.isAgg182
  z116 := Tryz.sizeOf182
  t117 := Tryz.underlying183
  a117 := Tryz.isAgg183
  z117 := Tryz.sizeOf183
  v117 := Tryz.zeroValue183
  t119 := Tryz.underlying249
  a119 := Tryz.isAgg249
  z119 := Tryz.sizeOf249
  t124 := Tryz.underlying186
  a124 := Tryz.isAgg186
  z124 := Tryz.sizeOf186
  v124 := Tryz.zeroValue186
  t138 := Tryz.underlying251
  a138 := Tryz.isAgg251
  z138 := Tryz.sizeOf251
  v138 := Tryz.zeroValue251
  t139 := Tryz.underlying252
  a139 := Tryz.isAgg252
  z139 := Tryz.sizeOf252
  v139 := Tryz.zeroValue252
  g3 := by kernel_rfl
  g4 := by kernel_rfl }
open Go.RowKit in
/-- strings.TrimRight: "TrimRight returns a slice of the string s, with all trailing Unicode code points contained in cutset removed.": AT A cutset OF ONE ASCII BYTE. The world is as it was. (LAID: no walk: one application.) -/
theorem Tryz.strings_TrimRight_one (s : ByteArray) (c : UInt8) (hc : c.toNat < 128) (w : World) (hs : s.size ≤ 9223372036854775807) :
    Calls Tryz.prog 130 #[.string s, .string ⟨#[c]⟩] w fun e w' => e = .returned (.string ⟨(Lib.trimRightB s.data.toList c).toArray⟩) ∧ w' = w := Any.strings_TrimRight_one Tryz.lays162 s c hc w hs
def Tryz.lays106_ren : Go.Shelf.Ren := ⟨fun | 106 => 121 | 213 => 160 | 265 => 201 | n => n, fun | 9 => 9 | 3 => 3 | n => n, fun | n => n⟩
theorem Tryz.lays106 : Go.Proofs.Lays.n106 Tryz.prog Tryz.lays106_ren := {
  mixed := by kernel_rfl
  f106 := Tryz.func121.trans (congrArg some (by kernel_rfl))
  f213 := Tryz.func160.trans (congrArg some (by kernel_rfl))
  f265 := Tryz.func201.trans (congrArg some (by kernel_rfl))
  t3 := Tryz.underlying3
  a3 := Tryz.isAgg3
  z3 := Tryz.sizeOf3
  v3 := Tryz.zeroValue3
  t9 := Tryz.underlying9
  a9 := Tryz.isAgg9
  z9 := Tryz.sizeOf9
  v9 := Tryz.zeroValue9 }
open Go.RowKit in
/-- strings.Compare: "Compare returns an integer comparing two strings lexicographically. The result will be 0 if a == b, -1 if a < b, and +1 if a > b.": IT RETURNS 'Lib.compareBytes a b'; the world is as it was. (LAID: no walk: one application.) -/
theorem Tryz.strings_Compare (a b : ByteArray) (w : World) :
    Calls Tryz.prog 121 #[.string a, .string b] w fun e w' => e = .returned (.int .i64 (Lib.compareBytes a.data.toList b.data.toList)) ∧ w' = w := Any.strings_Compare Tryz.lays106 a b w
open Go.RowKit in
/-- (*strings.Builder).String: "String returns the accumulated string.": WHATEVER THE BUILDER HOLDS; THE FORM '_k': OVER 'Lib.IsBuilderF' (a builder that 'String()' may have read), AND WITH THE FRAME THAT REACHES ABOVE THE BUILDER: 'Lib.OthersKept': every block that is not b and is no row of uint8's stands as it stood: the iterator of a range among them. (LAID: no walk: one application.) -/
theorem Tryz.Builder_String_any_k (B b : Nat) (l : List UInt8) (w : World) (h : Lib.IsBuilderF 150 5 B b (Lib.byteCells l) w) (hBw : B ≤ w.heap.size) :
    Calls Tryz.prog 138 #[.pointer (some ⟨b, 0, none⟩)] w fun e w' => e = .returned (.string ⟨l.toArray⟩) ∧ (Lib.IsBuilderF 150 5 B b (Lib.byteCells l) w' ∧ Below B w w' ∧ Lib.OthersKept 5 (some b) w w') := Any.Builder_String_any_k Tryz.lays169 Tryz.Builder_Extra_169 B b l w h hBw
def Tryz.laysM171_ren : Go.Shelf.Ren := ⟨fun | 171 => 167 | 243 => 209 | 246 => 229 | 283 => 240 | 284 => 241 | 285 => 242 | 286 => 243 | 129 => 250 | 317 => 249 | 318 => 251 | 319 => 252 | 320 => 253 | 337 => 254 | 338 => 255 | n => n, fun | 3 => 3 | 9 => 9 | 2 => 2 | 4 => 4 | 171 => 236 | 0 => 0 | 53 => 192 | 37 => 22 | 5 => 5 | 173 => 239 | 212 => 246 | 51 => 189 | 20 => 20 | 213 => 247 | 46 => 113 | 232 => 254 | 233 => 255 | n => n, fun | 17 => 3 | 18 => 6 | 19 => 7 | n => n⟩
theorem Tryz.laysM171 : Go.Proofs.LaysM.n171 Tryz.prog Tryz.laysM171_ren := {
  mixed := by kernel_rfl
  f129 := Tryz.func250.trans (congrArg some (by kernel_rfl))
  f171 := Tryz.func167.trans (congrArg some (by kernel_rfl))
  f243 := Tryz.func209.trans (congrArg some (by kernel_rfl))
  f246 := Tryz.func229.trans (congrArg some (by kernel_rfl))
  f283 := Tryz.func240.trans (congrArg some (by kernel_rfl))
  f284 := Tryz.func241.trans (congrArg some (by kernel_rfl))
  f285 := Tryz.func242.trans (congrArg some (by kernel_rfl))
  f286 := Tryz.func243.trans (congrArg some (by kernel_rfl))
  f317 := Tryz.func249.trans (congrArg some (by kernel_rfl))
  f318 := Tryz.func251.trans (congrArg some (by kernel_rfl))
  f319 := Tryz.func252.trans (congrArg some (by kernel_rfl))
  f320 := Tryz.func253.trans (congrArg some (by kernel_rfl))
  f337 := Tryz.func254.trans (congrArg some (by kernel_rfl))
  f338 := Tryz.func255.trans (congrArg some (by kernel_rfl))
  t0 := Tryz.underlying0
  a0 := Tryz.isAgg0
  z0 := Tryz.sizeOf0
  v0 := Tryz.zeroValue0
  t2 := Tryz.underlying2
  a2 := Tryz.isAgg2
  z2 := Tryz.sizeOf2
  v2 := Tryz.zeroValue2
  t3 := Tryz.underlying3
  a3 := Tryz.isAgg3
  z3 := Tryz.sizeOf3
  v3 := Tryz.zeroValue3
  t4 := Tryz.underlying4
  a4 := Tryz.isAgg4
  z4 := Tryz.sizeOf4
  v4 := Tryz.zeroValue4
  t5 := Tryz.underlying5
  a5 := Tryz.isAgg5
  z5 := Tryz.sizeOf5
  v5 := Tryz.zeroValue5
  t9 := Tryz.underlying9
  a9 := Tryz.isAgg9
  z9 := Tryz.sizeOf9
  v9 := Tryz.zeroValue9
  t20 := Tryz.underlying20
  a20 := Tryz.isAgg20
  z20 := Tryz.sizeOf20
  v20 := Tryz.zeroValue20
  t37 := Tryz.underlying22
  a37 := Tryz.isAgg22
  z37 := Tryz.sizeOf22
  v37 := Tryz.zeroValue22
  t46 := Tryz.underlying113
  a46 := Tryz.isAgg113
  z46 := Tryz.sizeOf113
  v46 := Tryz.zeroValue113
  t51 := Tryz.underlying189
  a51 := Tryz.isAgg189
  z51 := Tryz.sizeOf189
  v51 := Tryz.zeroValue189
  t53 := Tryz.underlying192
  a53 := Tryz.isAgg192
  z53 := Tryz.sizeOf192
  v53 := Tryz.zeroValue192
  t171 := Tryz.underlying236
  a171 := Tryz.isAgg236
  z171 := Tryz.sizeOf236
  v171 := Tryz.zeroValue236
  t173 := Tryz.underlying239
  a173 := Tryz.isAgg239
  z173 := Tryz.sizeOf239
  v173 := Tryz.zeroValue239
  t212 := Tryz.underlying246
  a212 := Tryz.isAgg246
  z212 := Tryz.sizeOf246
  v212 := Tryz.zeroValue246
  t213 := Tryz.underlying247
  a213 := Tryz.isAgg247
  z213 := Tryz.sizeOf247
  t232 := Tryz.underlying254
  a232 := Tryz.isAgg254
  z232 := Tryz.sizeOf254
  v232 := Tryz.zeroValue254
  t233 := Tryz.underlying255
  a233 := Tryz.isAgg255
  z233 := Tryz.sizeOf255
  v233 := Tryz.zeroValue255
  g17 := by kernel_rfl
  g18 := by kernel_rfl
  g19 := by kernel_rfl
  i0 := by kernel_rfl
  i2 := by kernel_rfl
  i3 := by kernel_rfl
  i4 := by kernel_rfl
  i5 := by kernel_rfl
  i9 := by kernel_rfl
  i20 := by kernel_rfl
  i37 := by kernel_rfl
  i46 := by kernel_rfl
  i51 := by kernel_rfl
  i53 := by kernel_rfl
  i171 := by kernel_rfl
  i173 := by kernel_rfl
  i212 := by kernel_rfl
  i232 := by kernel_rfl
  i233 := by kernel_rfl
  m17 := by kernel_rfl
  m18 := by kernel_rfl
  m19 := by kernel_rfl }
open Go.RowKit Go.Sort Go.Lib in
/-- strconv.Itoa: "Itoa is equivalent to FormatInt(int64(i), 10).": i's DECIMAL NUMERAL ('Lib.itoa': a '-' where i is negative, then the digits), FOR EVERY int. The world behind the call: the world before it, new blocks behind the heap (the library's 'var a [24]byte'), draws. (LAID: no walk: one application.) -/
theorem Tryz.strconv_Itoa (n : Int) (h0 : -9223372036854775808 ≤ n) (h1 : n ≤ 9223372036854775807) (w : World) (htab : Lib.TabIs Tryz.prog w "internal/strconv.uint64pow10" .u64 Lib.pow10Tab) :
    Calls Tryz.prog 167 #[.int .i64 n] w fun e w' => e = .returned (.string ⟨(Lib.itoa n).toArray⟩) ∧ ∃ k os, w' = grow (w.drewN k) os := Any.strconv_Itoa Tryz.laysM171 n h0 h1 w htab
def Tryz.lays105_ren : Go.Shelf.Ren := ⟨fun | 105 => 90 | 212 => 134 | 99 => 44 | 165 => 135 | 166 => 136 | 170 => 137 | 169 => 138 | 263 => 174 | 264 => 175 | 206 => 94 | 240 => 176 | 241 => 177 | 276 => 213 | 277 => 214 | n => n, fun | 9 => 9 | 3 => 3 | 4 => 4 | 20 => 20 | 0 => 0 | 46 => 113 | 109 => 146 | 5 => 5 | 72 => 150 | 76 => 154 | 51 => 189 | 146 => 190 | 53 => 192 | 148 => 193 | 70 => 148 | 37 => 22 | 75 => 153 | 127 => 195 | 164 => 215 | 80 => 141 | n => n, fun | n => n⟩
theorem Tryz.lays105 : Go.Proofs.Lays.n105 Tryz.prog Tryz.lays105_ren := {
  mixed := by kernel_rfl
  f99 := Tryz.func44.trans (congrArg some (by kernel_rfl))
  f105 := Tryz.func90.trans (congrArg some (by kernel_rfl))
  f165 := Tryz.func135.trans (congrArg some (by kernel_rfl))
  f166 := Tryz.func136.trans (congrArg some (by kernel_rfl))
  f169 := Tryz.func138.trans (congrArg some (by kernel_rfl))
  f170 := Tryz.func137.trans (congrArg some (by kernel_rfl))
  f206 := Tryz.func94.trans (congrArg some (by kernel_rfl))
  f212 := Tryz.func134.trans (congrArg some (by kernel_rfl))
  f240 := Tryz.func176.trans (congrArg some (by kernel_rfl))
  f241 := Tryz.func177.trans (congrArg some (by kernel_rfl))
  f263 := Tryz.func174.trans (congrArg some (by kernel_rfl))
  f264 := Tryz.func175.trans (congrArg some (by kernel_rfl))
  f276 := Tryz.func213.trans (congrArg some (by kernel_rfl))
  f277 := Tryz.func214.trans (congrArg some (by kernel_rfl))
  t0 := Tryz.underlying0
  a0 := Tryz.isAgg0
  z0 := Tryz.sizeOf0
  v0 := Tryz.zeroValue0
  t3 := Tryz.underlying3
  a3 := Tryz.isAgg3
  z3 := Tryz.sizeOf3
  v3 := Tryz.zeroValue3
  t4 := Tryz.underlying4
  a4 := Tryz.isAgg4
  z4 := Tryz.sizeOf4
  v4 := Tryz.zeroValue4
  t5 := Tryz.underlying5
  a5 := Tryz.isAgg5
  z5 := Tryz.sizeOf5
  v5 := Tryz.zeroValue5
  t9 := Tryz.underlying9
  a9 := Tryz.isAgg9
  z9 := Tryz.sizeOf9
  v9 := Tryz.zeroValue9
  t20 := Tryz.underlying20
  a20 := Tryz.isAgg20
  z20 := Tryz.sizeOf20
  v20 := Tryz.zeroValue20
  t37 := Tryz.underlying22
  a37 := Tryz.isAgg22
  z37 := Tryz.sizeOf22
  v37 := Tryz.zeroValue22
  t46 := Tryz.underlying113
  a46 := Tryz.isAgg113
  z46 := Tryz.sizeOf113
  v46 := Tryz.zeroValue113
  t51 := Tryz.underlying189
  a51 := Tryz.isAgg189
  z51 := Tryz.sizeOf189
  v51 := Tryz.zeroValue189
  t53 := Tryz.underlying192
  a53 := Tryz.isAgg192
  z53 := Tryz.sizeOf192
  v53 := Tryz.zeroValue192
  t70 := Tryz.underlying148
  a70 := Tryz.isAgg148
  z70 := Tryz.sizeOf148
  v70 := Tryz.zeroValue148
  t72 := Tryz.underlying150
  a72 := Tryz.isAgg150
  z72 := Tryz.sizeOf150
  v72 := Tryz.zeroValue150
  t75 := Tryz.underlying153
  a75 := Tryz.isAgg153
  z75 := Tryz.sizeOf153
  v75 := Tryz.zeroValue153
  t76 := Tryz.underlying154
  a76 := Tryz.isAgg154
  z76 := Tryz.sizeOf154
  v76 := Tryz.zeroValue154
  t109 := Tryz.underlying146
  a109 := Tryz.isAgg146
  z109 := Tryz.sizeOf146
  v109 := Tryz.zeroValue146
  t127 := Tryz.underlying195
  a127 := Tryz.isAgg195
  z127 := Tryz.sizeOf195
  v127 := Tryz.zeroValue195
  t146 := Tryz.underlying190
  a146 := Tryz.isAgg190
  z146 := Tryz.sizeOf190
  v146 := Tryz.zeroValue190
  t148 := Tryz.underlying193
  a148 := Tryz.isAgg193
  z148 := Tryz.sizeOf193
  v148 := Tryz.zeroValue193
  t164 := Tryz.underlying215
  a164 := Tryz.isAgg215
  z164 := Tryz.sizeOf215
  v164 := Tryz.zeroValue215 }
theorem Tryz.Builder_Extra_105 : Builder.Extra Tryz.prog Tryz.lays105_ren := {
  sizeBuilder := by kernel_rfl
  liesBuilder := by kernel_rfl
  t5 := Tryz.underlying5
  a5 := Tryz.isAgg5
  z5 := Tryz.sizeOf5
  v5 := Tryz.zeroValue5
  infoByte := by kernel_rfl
  cellsByte := by kernel_rfl
  sizeByte := by kernel_rfl
  neB5 := by decide }
open Go.RowKit Go.Lib in
/-- **strings.Repeat: count ≥ 0, the result within one allocation: count copies of s.** (LAID: no walk: one application.) -/
theorem Tryz.strings_Repeat (s : ByteArray) (c : Nat) (w : World) (hc : c ≤ 9223372036854775807) (hlen : s.size * c ≤ 140737488355328) :
    Calls Tryz.prog 90 #[.string s, .int .i64 c] w fun e w' => e = .returned (.string ⟨(Lib.repeatL s.data.toList c).toArray⟩) ∧ Below w.heap.size w w' := Any.strings_Repeat Tryz.lays105 Tryz.Builder_Extra_105 s c w hc hlen
end Go.Proofs
end

section
namespace Go.Proofs.YtiojgdjpigcgaaaGreatDoor.Q
open Go.RowKit Go.Proofs.YtiojgdjpigcgaaaGreatDoor.Q Go.Proofs.YtiojgdjpigcgaaaGreatDoorW.PrintWords Go.Proofs.YtiojgdjpigcgaaaGreatDoorW.PrintLast Go.Proofs.YtiojgdjpigcgaaaGreatDoorW.PrintMore
set_option linter.unusedVariables false
set_option linter.unusedSimpArgs false
/-- The table that strconv reads is laid. -/
def Laid (w : World) : Prop := Lib.TabIs Tryz.prog w "internal/strconv.uint64pow10" .u64 Lib.pow10Tab
theorem gPow : ∃ g, Tryz.prog.globalNamed "internal/strconv.uint64pow10" = some g := Option.isSome_iff_exists.1 (by kernel_rfl)
theorem laid_below {w W : World} (h : Laid w) (hb : Below w.heap.size w W) : Laid W := by
  obtain ⟨g, hg⟩ := gPow
  unfold Laid Lib.TabIs World.var? at h ⊢
  simp only [hg, Option.bind_some] at h ⊢
  have hlt : g < w.heap.size := by
    rcases Nat.lt_or_ge g w.heap.size with h' | h'
    · exact h'
    · simp [Array.getElem?_eq_none h'] at h
  rw [hb.block g hlt]
  exact h
end Go.Proofs.YtiojgdjpigcgaaaGreatDoor.Q
end

section
namespace Go.Proofs.YtiojgdjpigcgaaaGreatDoor.Q
open Go.Shelf
open Go.RowKit Go.Proofs.YtiojgdjpigcgaaaGreatDoor.Q Go.Proofs.YtiojgdjpigcgaaaGreatDoorW.PrintWords Go.Proofs.YtiojgdjpigcgaaaGreatDoorW.PrintLast Go.Proofs.YtiojgdjpigcgaaaGreatDoorW.PrintMore
set_option linter.unusedVariables false
set_option linter.unusedSimpArgs false
attribute [local go_sem] Oper.semAt_some
theorem piece_len (m : Int) (x : Limb) : (piece m x.1).length ≤ 4 := by
  have := itoa_len x.1.2 x.2.1 x.2.2
  unfold piece
  split
  · rw [List.length_append, Lib.repeatL_length]; simp only [List.length_cons, List.length_nil]; omega
  · exact this
theorem pieces_len (m : Int) : ∀ pre : List Limb, (pre.flatMap fun x => piece m x.1).length ≤ 4 * pre.length
  | [] => by simp
  | x :: pre => by
    have h1 := piece_len m x
    have h2 := pieces_len m pre
    rw [List.flatMap_cons, List.length_append, List.length_cons]
    omega
theorem text_round {w W wm w3 : World} {n B0 : Nat} {m : Int} {cs : Array Value} {pre : List Limb} {x : Limb} {s : ByteArray} (hn : n = w.heap.size)
    (tB : Lib.IsBuilderF 150 5 w.heap.size (w.heap.size + 1) (Lib.byteCells (pre.flatMap fun x => piece m x.1)) W) (t1 : CellsAt W w.heap.size 111 cs) (t0 : CellsAt W (w.heap.size + 1 + 1) 111 cs) (tb : Below w.heap.size w W) (hb : Below W.heap.size W wm)
    (hB3 : Lib.BuilderAtF 150 5 w.heap.size (w.heap.size + 1) (.pointer (some ⟨w.heap.size + 1, 0, none⟩)) (Lib.byteCells (pre.flatMap fun x => piece m x.1) ++ Lib.strCells s) w3) (hb3 : Below w.heap.size wm w3) (hk3 : Lib.OthersKept 5 (some (w.heap.size + 1)) wm w3) (hs : s.data.toList = piece m x.1) :
    KeepsFrom B0 W w3 ∧ KpB w.heap.size (w.heap.size + 1 + 1) W w3 ∧ ((Lib.IsBuilderF 150 5 w.heap.size (w.heap.size + 1) (Lib.byteCells ((pre ++ [x]).flatMap fun x => piece m x.1)) w3 ∧ CellsAt w3 w.heap.size 111 cs) ∧ CellsAt w3 (w.heap.size + 1 + 1) 111 cs) ∧ Below w.heap.size w w3 := by
  have tBm := builder_below tB hb
  have hcell : ∃ cs t fz, wm.heap[w.heap.size + 1]? = some (.cells cs t fz) := by
    obtain h | h := tBm <;> (obtain ⟨_, v, hbk, _⟩ := h; exact ⟨_, _, _, hbk⟩)
  have hno : ∀ c fz, (Obj.cells cs 111 (0, 0)) ≠ .cells c 5 fz := fun c fz e => by injection e with _ e2 _; exact absurd e2 (by decide)
  have k1 : CellsAt w3 w.heap.size 111 cs := hk3 _ _ (t1.below hb t1.lt) (by simp) hno
  have k0 : CellsAt w3 (w.heap.size + 1 + 1) 111 cs := hk3 _ _ (t0.below hb t0.lt) (by simp) hno
  have hbW : Below w.heap.size W wm := hb.mono tb.size
  refine ⟨(keepsFrom_of_below hb).trans (keepsFrom_of_others hb3.size hk3 hcell), ⟨hbW.trans hb3, k0.trans t0.symm⟩, ⟨⟨.inr ?_, k1⟩, k0⟩, (tb.trans hbW).trans hb3⟩
  rw [List.flatMap_append, List.flatMap_singleton, Lib.byteCells_append, ← hs]
  exact hB3
set_option maxRecDepth 100000 in
set_option maxHeartbeats 4000000 in
theorem impl_text.calls (A0 : Option Addr) (c0 : Nat) (l0 : List Int) (w : World) (hlaid : Laid w) (hr0 : Kd.C (Kd.int .i64) w A0 l0.length l0) (hc0 : l0.length ≤ c0) (hz : ∀ y ∈ l0, 0 ≤ y ∧ y ≤ 9999) (hlen : l0.length ≤ 1000000) :
    Calls Tryz.prog 129 #[.slice A0 l0.length c0] w fun e w' => e = .returned (.string ⟨(textF l0).toArray⟩) ∧ Below w.heap.size w w' := by
  have HR0 := Aside0.mk hr0
  have HC0 := Aside0.mk hc0
  have HL := Aside0.mk hlen
  clear hr0 hc0 hlen
  by_cases hnil : l0 = []
  · subst hnil
    refine (callsIn_wide (n := 9)).1 ?_
    refine callsIn_of_wp_marks Tryz.func129 rfl trivial ?_ rfl
    simp only [Tryz.ntmps129, List.size_toArray, List.length_cons, List.length_nil, Nat.reduceAdd, Nat.reduceSub, Array.replicate_succ, Array.replicate_zero, List.push_toArray, List.append_toArray, List.nil_append, List.cons_append]
    gi_wp2
    exact ⟨_, results_tmp rfl _ _ _, rfl, (Below.refl _ w).alloc (Nat.le_refl _) _⟩
  · have hn : (l0.length : Int) ≠ 0 := by have := List.length_pos_iff.2 hnil; omega
    have hn1 : ((l0.length : Int) == 0) = false := beq_eq_false_iff_ne.mpr hn
    refine (callsIn_wide (n := 9)).1 ?_
    refine callsIn_of_wp_marks Tryz.func129 rfl trivial ?_ rfl
    simp only [Tryz.ntmps129, List.size_toArray, List.length_cons, List.length_nil, Nat.reduceAdd, Nat.reduceSub, Array.replicate_succ, Array.replicate_zero, List.push_toArray, List.append_toArray, List.nil_append, List.cons_append]
    gi_wp2_with (refine ⟨trivial, ?_⟩; gi_at_call 166; refine (backI_in Fence.wide _ trivial rfl _ _ _ _).mono ?_; rintro e w6 ⟨rfl, hw6⟩)
    have e0 : ((upto (limbAt l0 hz) l0.length).flatMap fun x => piece l0.length x.1) = textF l0 := by
      unfold textF upto
      rw [if_neg hnil, List.flatMap_map, List.flatMap_map]
      rfl
    obtain ⟨W0, hW0⟩ : ∃ W0, ((w.alloc (.cells #[.slice A0 l0.length c0] 111)).alloc (.cells #[.pointer none, .slice none 0 0] 150)).alloc (.cells #[.slice A0 l0.length c0] 111) = W0 := ⟨_, rfl⟩
    have s1 : CellsAt W0 w.heap.size 111 #[.slice A0 l0.length c0] := by rw [← hW0]; exact ((CellsAt.new w _ _).alloc _).alloc _
    have s0 : CellsAt W0 (w.heap.size + 1 + 1) 111 #[.slice A0 l0.length c0] := by rw [← hW0]; have := CellsAt.new ((w.alloc (.cells #[.slice A0 l0.length c0] 111)).alloc (.cells #[.pointer none, .slice none 0 0] 150)) 111 #[.slice A0 l0.length c0]; rwa [World.size_alloc, World.size_alloc] at this
    have sB : Lib.IsBuilderF 150 5 w.heap.size (w.heap.size + 1) (Lib.byteCells []) W0 := by
      have h : CellsAt W0 (w.heap.size + 1) 150 #[.pointer none, .slice none 0 0] := by rw [← hW0]; have := (CellsAt.new (w.alloc (.cells #[.slice A0 l0.length c0] 111)) 150 #[.pointer none, .slice none 0 0]).alloc (.cells #[.slice A0 l0.length c0] 111); rwa [World.size_alloc] at this
      exact .inl ⟨by omega, .slice none 0 0, h, World.ownsRowF_nil _ _ _ _, by simp [Value.ownBlock]⟩
    have hsz : W0.heap.size = w.heap.size + 1 + 1 + 1 := by rw [← hW0]; simp
    have hBW0 : Below w.heap.size w W0 := by rw [← hW0]; exact (((Below.refl _ w).alloc (Nat.le_refl _) _).alloc (by simp) _).alloc (by simp; omega) _
    rw [hW0]
    clear hW0 hw6
    refine wpIn_rangeFunc_ownH rfl (by decide) (gf := 208) (lb := #[.pointer (some ⟨w.heap.size + 1 + 1, 0, none⟩)]) rfl trivial (enters_of Tryz.func208 (by kernel_rfl) rfl)
      (backI_stops (fun x : Limb => x.1) (limbAt l0 hz) Fence.wide _ trivial rfl (by decide) (w.heap.size + 1 + 1) w A0 c0 l0 HC0.out (by have := HL.out; omega) HR0.out (fun _ _ => rfl) W0 hBW0 s0) KpB.trans (kpB_b (by omega) (by omega)) (Below.refl _ _) (fun _ => rfl)
      (fun pre W => ((Lib.IsBuilderF 150 5 w.heap.size (w.heap.size + 1) (Lib.byteCells (pre.flatMap fun x => piece l0.length x.1)) W ∧ CellsAt W w.heap.size 111 #[.slice A0 l0.length c0]) ∧ CellsAt W (w.heap.size + 1 + 1) 111 #[.slice A0 l0.length c0]) ∧ Below w.heap.size w W)
      (fun _ _ _ => False)
      (OwnFrom.and (OwnFrom.and (OwnFrom.and (Own.from (builder_own _ _ _ _ _) _) (Own.from (cellsAt_own _ _ _) _)) (Own.from (cellsAt_own _ _ _) _)) (ownFrom_below (Nat.le_refl _) (by omega)))
      (fun _ _ _ _ _ hs _ _ => hs)
      ⟨⟨⟨sB, s1⟩, s0⟩, hBW0⟩
      (fun x a' _ => a' = { tmps := #[.slice A0 l0.length c0, .pointer (some ⟨w.heap.size, 0, none⟩), .string ⟨#[]⟩, .pointer (some ⟨w.heap.size + 1, 0, none⟩), .int .i64 x.1.1, .int .i64 x.1.2, undef, .slice A0 l0.length c0, .int .i64 l0.length, .bool false, .slice A0 l0.length c0, .func (.func 208) #[] #[.pointer (some ⟨w.heap.size + 1 + 1, 0, none⟩)], .int .i64 x.1.1, .int .i64 x.1.2, undef, undef, undef, undef, undef, undef, undef, undef, undef, undef, undef, undef, undef, undef, undef, undef], defers := [] })
      (fun _ _ _ _ _ _ hs _ _ => hs)
      ?assign ?body ?done ?stop
    case assign =>
      rintro l pre x W K hI hK
      simp only [encI]
      gi_wp2
      exact hK _ _ (KeepsFrom.refl _ _) (KpB.refl _ _ _) hI rfl
    case body =>
      rintro l pre x a' W hl ⟨r, hr⟩ ⟨⟨⟨tB, t1⟩, t0⟩, tb⟩ rfl hlt
      have hx0 := x.2.1
      have hx1 := x.2.2
      have u1 : W.cell? ⟨w.heap.size, 0, none⟩ = some (.slice A0 l0.length c0) := t1.cell 0
      have hl4 := itoa_len x.1.2 hx0 hx1
      gi_wp2
      refine ⟨trivial, ?_⟩
      refine (CallsIn.inRound l (callsIn_wide.2 (Tryz.strconv_Itoa x.1.2 (by omega) (by omega) W (laid_below hlaid tb)))).mono ?_
      rintro e w1 ⟨rfl, k1, os1, hw1⟩
      have hb1 : Below W.heap.size W w1 := by rw [hw1]; exact Go.Lib.below_grow _ _ (Nat.le_refl _) _ _
      have u1' : w1.cell? ⟨w.heap.size, 0, none⟩ = some (.slice A0 l0.length c0) := (t1.below hb1 t1.lt).cell 0
      have ew : wrap64 ((l0.length : Int) - 1) = (l0.length : Int) - 1 := by have := HL.out; unfold wrap64; omega
      clear hw1
      by_cases hlt2 : x.1.1 < (l0.length : Int) - 1
      · have hd : decide (x.1.1 < (l0.length : Int) - 1) = true := decide_eq_true hlt2
        gi_wp2
        refine ⟨trivial, ?_⟩
        have hc : (4 - ((Lib.itoa x.1.2).length : Int)) = ((4 - (Lib.itoa x.1.2).length : Nat) : Int) := by omega
        rw [hc]
        refine (CallsIn.inRound l (callsIn_wide.2 (Tryz.strings_Repeat ⟨#[48]⟩ (4 - (Lib.itoa x.1.2).length) w1 (by omega) (by show 1 * _ ≤ _; omega)))).mono ?_
        rintro e w2 ⟨rfl, hb2⟩
        have hrl := Lib.repeatL_length [48] (4 - (Lib.itoa x.1.2).length)
        have hov : (9223372036854775807 < (Lib.repeatL [48] (4 - (Lib.itoa x.1.2).length)).length + (Lib.itoa x.1.2).length) = False := eq_false (by rw [hrl]; simp only [List.length_cons, List.length_nil]; omega)
        gi_wp2
        refine ⟨trivial, ?_⟩
        refine (CallsIn.inRound l (callsIn_wide.2 (bld_WriteString w.heap.size (w.heap.size + 1) _ _ w2 (builder_below (builder_below tB hb1) hb2) (by rw [Lib.byteCells_length]; have := pieces_len l0.length pre; have := HL.out; rw [ByteArray.size_append]; have e1 : (⟨(Lib.repeatL [48] (4 - (Lib.itoa x.1.2).length)).toArray⟩ : ByteArray).size = (Lib.repeatL [48] (4 - (Lib.itoa x.1.2).length)).length := rfl; have e2 : (⟨(Lib.itoa x.1.2).toArray⟩ : ByteArray).size = (Lib.itoa x.1.2).length := rfl; rw [e1, e2, hrl]; simp only [List.length_cons, List.length_nil]; omega) (by have := tb.size; have := hb1.size; have := hb2.size; omega)))).mono ?_
        rintro e w3 ⟨rfl, hB3, hb3, hk3⟩
        gi_wp2
        exact text_round rfl tB t1 t0 tb (hb1.trans (hb2.mono hb1.size)) hB3 hb3 hk3 (by unfold piece; rw [if_pos hlt2]; simp)
      · have hd : decide (x.1.1 < (l0.length : Int) - 1) = false := decide_eq_false hlt2
        gi_wp2
        refine ⟨trivial, ?_⟩
        refine (CallsIn.inRound l (callsIn_wide.2 (bld_WriteString w.heap.size (w.heap.size + 1) _ _ w1 (builder_below tB hb1) (by rw [Lib.byteCells_length]; have := pieces_len l0.length pre; have := HL.out; have e2 : (⟨(Lib.itoa x.1.2).toArray⟩ : ByteArray).size = (Lib.itoa x.1.2).length := rfl; rw [e2]; omega) (by have := tb.size; have := hb1.size; omega)))).mono ?_
        rintro e w3 ⟨rfl, hB3, hb3, hk3⟩
        gi_wp2
        exact text_round rfl tB t1 t0 tb hb1 hB3 hb3 hk3 (by unfold piece; rw [if_neg (by omega)])
    case done =>
      rintro D ys W hD rfl ⟨⟨⟨tB, t1⟩, t0⟩, tb⟩ hK
      gi_wp2_with (refine ⟨trivial, ?_⟩; gi_at_call 138; refine (callsIn_wide.2 (Tryz.Builder_String_any_k w.heap.size (w.heap.size + 1) _ _ tB (by have := tb.size; omega))).mono ?_; rintro e w7 ⟨rfl, hb7, hb8, hok⟩)
      have hK7 := hok D _ hK (fun e' => by cases e'; obtain h | h := tB <;> (obtain ⟨_, v, hbk, _⟩ := h; rw [hK] at hbk; cases hbk)) (fun _ _ h => by cases h)
      refine ⟨by simp, .inl ⟨_, _, rfl, run_takeDeferred hK7, ?_⟩⟩
      refine ⟨_, results_tmp rfl _ _ _, ?_, (tb.trans hb8).trans (belowK_b (w := w) (Nat.le_refl _) w7 D _ _ (by omega) hK7 rfl rfl)⟩
      rw [← e0]
      rfl
    case stop =>
      rintro D c pre W _ _ h _
      exact h.elim
end Go.Proofs.YtiojgdjpigcgaaaGreatDoor.Q
end
