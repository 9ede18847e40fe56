/- A part of the proof that the law FnExactKeyGet answers true for every input: contracts of functions that it reaches, or its plain law. -/
import Derived.RangeFuncNested
import Derived.RangeFuncBound
import Derived.RangeFuncCalls
import Derived.RangeFuncLeaves
import Derived.Shelf.Abstract
import Derived.Shelf.RegionOpen
import Derived.WalkKit
import Derived.OwnWalkIn
import Derived.TacticsInMore
import Derived.LoopNIn
import Derived.LoopIn
import Derived.Shelf.Strings.BuilderF
import Derived.Lib.FrozenHead2
import Derived.Lib.OthersKept
import Derived.Lib.ItoaNum
import Derived.Lib.Repeat
import Derived.Lib.TrimByte
import Derived.Lib.Atoi
import Derived.Lib.RepeatB
import Derived.Lib.CutLaws
import Derived.Test.YtiojgdjpigcgaaaGreatDoorProg
import Derived.KernelRfl
import Derived.Shelf.Strings.Builder1
import Derived.Shelf.Strings.Builder2
import Derived.Shelf.Strings.Trim
import Derived.Shelf.Small.Utf8
import Derived.Shelf.Small.Strs
import Derived.Shelf.Small.Wraps
import Derived.Shelf.Strings.BuilderK
import Derived.Shelf.Strings.Builder2Cap
import Derived.Shelf.Strconv.Atoi
import Derived.Shelf.Strconv.Itoa0
import Derived.Shelf.Strconv.Itoa1
import Derived.Shelf.LaysM
import Derived.Shelf.Strconv.Itoa2
import Derived.Shelf.Strconv.Itoa3
import Derived.Shelf.Strconv.AtoiErrFast
import Derived.Shelf.Strconv.ParseIntEmpty
import Derived.Shelf.Strconv.AtoiFail
import Derived.Shelf.Strconv.Clone
import Derived.Shelf.Strconv.SyntaxError
import Derived.Shelf.LaysC
import Derived.Shelf.Strconv.ToError
import Derived.Shelf.Strconv.AtoiErr
import Derived.Shelf.Strconv.Lower
import Derived.Shelf.Strconv.ParseUint10
import Derived.Shelf.Strconv.ParseUint10Empty
import Derived.Shelf.Strconv.ParseUint10Any
import Derived.Shelf.Strconv.ParseInt10
import Derived.Shelf.Strconv.AtoiLong
import Derived.Shelf.Strconv.AtoiInnerAll
import Derived.Shelf.Strconv.RangeError
import Derived.Shelf.Strconv.ToErrorRange
import Derived.Shelf.Strconv.AtoiAll
import Derived.Shelf.Strconv.ParseUintEmpty
import Derived.Shelf.Strconv.ParseUint10b64
import Derived.Shelf.Strconv.ParseUint10b32
import Derived.Shelf.Strconv.ParseUint10b16
import Derived.Shelf.Strconv.ParseUint10b8
import Derived.Shelf.Strconv.ParseUint10At
import Derived.Shelf.Strconv.ParseInt10At64
import Derived.Shelf.Strconv.ParseInt10At32
import Derived.Shelf.Strconv.ParseInt10At16
import Derived.Shelf.Strconv.ParseInt10At8
import Derived.Shelf.Strings.Search1
import Derived.Shelf.Strings.Search2
import Derived.Shelf.Strings.Cut
import Derived.Shelf.Strings.Shaped
import Derived.Shelf.Strings.Prefix
import Derived.Shelf.Unicode.Decode
import Derived.Shelf.Strings.Runes
import Derived.Shelf.Strings.AsciiSet
import Derived.Shelf.Bits.Mul64
import Derived.Shelf.Strings.Repeat
import Derived.Shelf.Unicode.DecodeSlow
import Derived.Shelf.Unicode.DecodeAny
import Derived.Shelf.Unicode.DecodeLast
import Derived.Shelf.Strings.BuilderCap
import Derived.Ground.Names2Prog
import Derived.Shelf.Slices.Clone
import Derived.Shelf.Slices.SearchI
import Derived.Ground.SlgnProg
import Derived.Shelf.SlicesE.Clone
import Derived.Lib.LaidTab
import Derived.Lib.AppendIntMem
import Derived.Test.YtiojgdjpigcgaaaGreatDoorRows
import Derived.ProofKit
import Derived.OpenShut
import Derived.ShutString
import Derived.ChangeOld
import Derived.Below
import Derived.SizedLaws
import Derived.Carry
import Derived.Test.YtiojgdjpigcgaaaGreatDoorCards
import Derived.Test.YtiojgdjpigcgaaaGreatDoorTie
import Derived.LaidMore
import Derived.Stop.Joined
import Derived.Stop.LaidErr
import Derived.SevenTiedAt
import Derived.Test.YtiojgdjpigcgaaaGreatDoorCFnExactKeyGetx0
import Derived.Test.YtiojgdjpigcgaaaGreatDoorCFnExactKeyGetx1
import Derived.Test.YtiojgdjpigcgaaaGreatDoorCFnExactKeyGetx2
import Derived.Test.YtiojgdjpigcgaaaGreatDoorCFnExactKeyGetx3
namespace Go.Proofs.YtiojgdjpigcgaaaGreatDoor.Q
end Go.Proofs.YtiojgdjpigcgaaaGreatDoor.Q
namespace Go.Proofs.YtiojgdjpigcgaaaGreatDoor.R
end Go.Proofs.YtiojgdjpigcgaaaGreatDoor.R
namespace Go.Proofs.YtiojgdjpigcgaaaGreatDoorW.PrintLast
end Go.Proofs.YtiojgdjpigcgaaaGreatDoorW.PrintLast
namespace Go.Proofs.YtiojgdjpigcgaaaGreatDoorW.PrintMore
end Go.Proofs.YtiojgdjpigcgaaaGreatDoorW.PrintMore
namespace Go.Proofs.YtiojgdjpigcgaaaGreatDoorW.PrintWords
end Go.Proofs.YtiojgdjpigcgaaaGreatDoorW.PrintWords
section
namespace Go.Proofs.YtiojgdjpigcgaaaGreatDoor.Q
open Go.Shelf
open Go.RowKit Go.Proofs.YtiojgdjpigcgaaaGreatDoor.Q Go.Proofs.YtiojgdjpigcgaaaGreatDoorW.PrintWords Go.Proofs.YtiojgdjpigcgaaaGreatDoorW.PrintLast Go.Proofs.YtiojgdjpigcgaaaGreatDoorW.PrintMore
set_option linter.unusedVariables false
set_option linter.unusedSimpArgs false
/-- A block holds these cells. -/
def CellsAt (W : World) (B : Nat) (t : TypeId) (cs : Array Value) : Prop := W.heap[B]? = some (.cells cs t (0, 0))
theorem CellsAt.lt {W : World} {B : Nat} {t : TypeId} {cs : Array Value} (h : CellsAt W B t cs) : B < W.heap.size := (Array.getElem?_eq_some_iff.1 h).1
theorem CellsAt.new (W : World) (t : TypeId) (cs : Array Value) : CellsAt (W.alloc (.cells cs t)) W.heap.size t cs := World.alloc_heap_new W _
theorem CellsAt.kept {W W' : World} {row : Option Nat} {B : Nat} {t : TypeId} {cs : Array Value} (h : CellsAt W B t cs) (hg : W.grownBy W' row) (hne : some B ≠ row) : CellsAt W' B t cs := (hg.block B h.lt hne).trans h
theorem CellsAt.below {W W' : World} {B n : Nat} {t : TypeId} {cs : Array Value} (h : CellsAt W B t cs) (hb : Below n W W') (hn : B < n) : CellsAt W' B t cs := (hb.block B hn).trans h
theorem CellsAt.alloc {W : World} {B : Nat} {t : TypeId} {cs : Array Value} (h : CellsAt W B t cs) (o : Obj) : CellsAt (W.alloc o) B t cs := (Below.heap_alloc W o B h.lt).trans h
theorem CellsAt.drewN {W : World} {B : Nat} {t : TypeId} {cs : Array Value} (h : CellsAt W B t cs) (m : Nat) : CellsAt (W.drewN m) B t cs := h
theorem CellsAt.cell {W : World} {B : Nat} {t : TypeId} {cs : Array Value} (h : CellsAt W B t cs) (j : Nat) : W.cell? ⟨B, j, none⟩ = cs[j]? := by
  simp [World.cell?, show W.heap[B]? = _ from h]
theorem cellsAt_own {β : Type} (B : Nat) (t : TypeId) (f : β → Array Value) : Own (fun s W => CellsAt W B t (f s)) := fun s X Y row hs hg hrow =>
  hs.kept hg (fun e' => by obtain ⟨o, ho, hc⟩ := hrow B e'.symm; rw [show X.heap[B]? = _ from hs] at ho; cases ho; cases hc)
/-- What has come when k rounds are over. -/
def upto {α : Type} (f : Nat → α) (k : Nat) : List α := (List.range k).map f
theorem upto_succ {α : Type} (f : Nat → α) (k : Nat) : upto f (k + 1) = upto f k ++ [f k] := by simp [upto, List.range_succ]
theorem upto_length {α : Type} (f : Nat → α) (k : Nat) : (upto f k).length = k := by simp [upto]
/-- What a round that goes on keeps: what lay below, and the box of the slice. -/
def KpB (n₀ Bs : Nat) (W W' : World) : Prop := Below n₀ W W' ∧ W'.heap[Bs]? = W.heap[Bs]?
theorem KpB.refl (n₀ Bs : Nat) (W : World) : KpB n₀ Bs W W := ⟨Below.refl _ _, rfl⟩
theorem KpB.trans {n₀ Bs : Nat} {A B C : World} (h : KpB n₀ Bs A B) (k : KpB n₀ Bs B C) : KpB n₀ Bs A C := ⟨h.1.trans k.1, k.2.trans h.2⟩
theorem kpB_b {n₀ Bs : Nat} {w : World} (h0 : n₀ ≤ w.heap.size) (hB : Bs < w.heap.size) : ∀ (W : World) (l : Nat) (o o' : Obj), w.heap.size ≤ l → W.heap[l]? = some o → o.isCells = false → o.isWalk = false → KpB n₀ Bs W (W.putObj l o') :=
  fun W l o o' hl h1 h2 h3 => ⟨belowK_b h0 W l o o' hl h1 h2 h3, World.putObj_heap_other (by omega)⟩
end Go.Proofs.YtiojgdjpigcgaaaGreatDoor.Q
end

section
namespace Go.Proofs.YtiojgdjpigcgaaaGreatDoor.Q
open Go.RowKit Go.Proofs.YtiojgdjpigcgaaaGreatDoor.Q Go.Proofs.YtiojgdjpigcgaaaGreatDoorW.PrintWords Go.Proofs.YtiojgdjpigcgaaaGreatDoorW.PrintLast Go.Proofs.YtiojgdjpigcgaaaGreatDoorW.PrintMore
set_option linter.unusedVariables false
set_option linter.unusedSimpArgs false
set_option maxHeartbeats 2000000 in
set_option maxRecDepth 100000 in
theorem bld_copyCheck (B b : Nat) (bs : List Value) (w : World) (h : Lib.IsBuilderF 150 5 B b bs w) :
    Calls Tryz.prog 176 #[.pointer (some ⟨b, 0, none⟩)] w fun e w' => e = .returned (.tuple #[]) ∧ (Lib.BuilderAtF 150 5 B b (.pointer (some ⟨b, 0, none⟩)) bs w' ∧ Below B w w' ∧ Lib.OthersKept 5 (some b) w w') := by
  have hsz : (Tryz.prog.info? 150).map (·.size) = some 2 := by kernel_rfl
  obtain ⟨j, hj, hjs⟩ := Option.map_eq_some_iff.1 hsz
  rcases h with h | h
  · have h' := h
    obtain ⟨hB, v, hbk, hown, hne⟩ := h'
    have c0 : w.cell? ⟨b, 0, none⟩ = some (.pointer none) := by rw [Lib.cell_of_heap hbk]; rfl
    have c1 : w.cell? ⟨b, 1, none⟩ = some v := by rw [Lib.cell_of_heap hbk]; rfl
    have f0 : w.frozen? ⟨b, 0, none⟩ = false := Lib.frozen_of_heap hbk 0
    go_enter Tryz.func176, Tryz.ntmps176
    go_wp2
    rw [Lib.run_to_unsafe w ⟨b, 0, none⟩ Tryz.underlying148 Tryz.underlying215 hj (by rw [hjs]; decide) h.shape (Nat.zero_lt_succ 1)]
    simp only [Result.andThen]
    rw [Oper.upon_value]
    go_wp2
    rw [run_callFunc_extern Tryz.func213 (by kernel_rfl) (by kernel_rfl) (by kernel_rfl) (e := Extern.AbiNoEscape.same) (by kernel_rfl)]
    rw [Lib.run_noEscape]
    simp only [Result.andThen]
    rw [Oper.upon_value]
    go_wp2
    rw [Lib.run_from_unsafe w ⟨b, 0, none⟩ Tryz.underlying215 Tryz.underlying148 hj h.shape (by kernel_rfl)]
    simp only [Result.andThen]
    rw [Oper.upon_value]
    go_wp2
    go_end0
    exact ⟨rfl, h.used _, (Below.refl B w).setCell (p := ⟨b, 0, none⟩) h.1 _, (Lib.OthersKept.refl _ _ w).setCell ⟨b, 0, none⟩ rfl _⟩
  · obtain ⟨hB, v, hbk, hown, hne⟩ := id h
    have c0 : w.cell? ⟨b, 0, none⟩ = some (.pointer (some ⟨b, 0, none⟩)) := by rw [Lib.cell_of_heap hbk]; rfl
    go_enter Tryz.func176, Tryz.ntmps176
    go_wp2
    rw [Lib.run_neq_ptr_same w _ Tryz.underlying148 hj]
    go_wp2
    go_end0
    exact ⟨rfl, h, Below.refl B _, Lib.OthersKept.refl _ _ _⟩
theorem infoByte : (Tryz.prog.info? 5).map (fun i => (i.zero, i.size, i.bytes)) = some (some (.int .u8 0), 1, 1) := by kernel_rfl
set_option maxHeartbeats 2000000 in
set_option maxRecDepth 100000 in
theorem bld_WriteString (B b : Nat) (bs : List Value) (s : ByteArray) (w : World) (h : Lib.IsBuilderF 150 5 B b bs w) (hlen : bs.length + s.size ≤ 140737488355328) (hBw : B ≤ w.heap.size) :
    Calls Tryz.prog 136 #[.pointer (some ⟨b, 0, none⟩), .string s] w fun e w' => e = .returned (.tuple #[.int .i64 s.size, .nilIface]) ∧ (Lib.BuilderAtF 150 5 B b (.pointer (some ⟨b, 0, none⟩)) (bs ++ Lib.strCells s) w' ∧ Below B w w' ∧ Lib.OthersKept 5 (some b) w w') := by
  obtain ⟨i0, hi, hz0, hz1, hz2⟩ := info_parts infoByte
  go_enter Tryz.func136, Tryz.ntmps136
  go_wp2_with (go_at_call 176; refine (bld_copyCheck B b bs _ h).mono ?_)
  rintro e w1 ⟨rfl, h1, hb1, hk1⟩
  obtain ⟨hB, v, hbk, hown, hne⟩ := h1
  have c0 : w1.cell? ⟨b, 0, none⟩ = some (.pointer (some ⟨b, 0, none⟩)) := by rw [Lib.cell_of_heap hbk]; rfl
  have c1 : w1.cell? ⟨b, 1, none⟩ = some v := by rw [Lib.cell_of_heap hbk]; rfl
  go_wp2_with (at_builtin; refine Lib.wpList_append_own_stringF _ rfl _ _ 22 9 rfl B 5 i0 Tryz.underlying22 Tryz.underlying9 hi hz0 hz1 hz2 _ _ _ rfl hown s rfl ?c3 ?c4 ?c5 ?_)
  case c3 => unfold maxLen; omega
  case c4 => omega
  case c5 => have := hb1.size; omega
  intro v' w2 hown' hgrow _
  have hlt : b < w1.heap.size := (Array.getElem?_eq_some_iff.1 hbk).1
  have hb2 : w2.heap[b]? = some (.cells #[.pointer (some ⟨b, 0, none⟩), v] 150 (0, 0)) := by
    rw [hgrow.block b hlt (fun e => hne e.symm)]
    exact hbk
  have d0 : w2.cell? ⟨b, 0, none⟩ = some (.pointer (some ⟨b, 0, none⟩)) := by rw [Lib.cell_of_heap hb2]; rfl
  have d1 : w2.cell? ⟨b, 1, none⟩ = some v := by rw [Lib.cell_of_heap hb2]; rfl
  have f1 : w2.frozen? ⟨b, 1, none⟩ = false := Lib.frozen_of_heap hb2 1
  obtain ⟨ao, n', cap, rfl⟩ : ∃ ao n' cap, v' = .slice ao n' cap := by
    rcases hown'.2 with ⟨hv, _⟩ | ⟨g, cap, cur, fz, hv, _⟩
    · exact ⟨_, _, _, hv⟩
    · exact ⟨_, _, _, hv⟩
  go_wp2
  go_ret2
  refine ⟨rfl, ?_, ?_, (hk1.grown hgrow (Lib.ownsRowF_kind hown)).setCell ⟨b, 1, none⟩ rfl _⟩
  · exact Lib.BuilderAtF.put (T := 150) (e := 5) hB hb2 (bs' := bs ++ Lib.strCells s) (by simpa [Lib.strCells_length] using hown') (by decide)
  · exact (hb1.grown hgrow (by have := hb1.size; omega) (fun k hk => (hown.lt k hk).1)).setCell (p := ⟨b, 1, none⟩) hB _
end Go.Proofs.YtiojgdjpigcgaaaGreatDoor.Q
end

section
namespace Go.Proofs.YtiojgdjpigcgaaaGreatDoor.Q
open Go.Shelf
open Go.RowKit Go.Proofs.YtiojgdjpigcgaaaGreatDoor.Q Go.Proofs.YtiojgdjpigcgaaaGreatDoorW.PrintWords Go.Proofs.YtiojgdjpigcgaaaGreatDoorW.PrintLast Go.Proofs.YtiojgdjpigcgaaaGreatDoorW.PrintMore
set_option linter.unusedVariables false
set_option linter.unusedSimpArgs false
attribute [local go_sem] Oper.semAt_some
def encI (x : Int × Int) : Array Value := #[.int .i64 x.1, .int .i64 x.2]
def bwI (zs : List Int) (j : Nat) : Int × Int := ((zs.length : Int) - 1 - j, rd zs ((zs.length : Int) - 1 - j))
set_option maxRecDepth 100000 in
set_option maxHeartbeats 2000000 in
theorem backI1_in {α : Type} (pr : α → Int × Int) (f : Nat → α) (F : Fence) (n : Nat) (h7 : F.fn 208) (hro : F.round = none) (hn : 1 ≤ n) (l Bs : Nat) (w0 : World) (A : Option Addr) (cap : Nat) (zs : List Int) (hcap : zs.length ≤ cap) (hlen : zs.length ≤ 1152921504606846976)
    (hC : Kd.C (Kd.int .i64) w0 A zs.length zs) (hf : ∀ k, k < zs.length → pr (f k) = bwI zs k) (J Jx : List α → World → Prop)
    (hY : ∀ pre x W, J pre W → pre.length < zs.length → YieldAt F (n - 1) Tryz.prog l (encI (pr x)) W fun e W' =>
      (e = .returned (.bool true) ∧ J (pre ++ [x]) W' ∧ KpB w0.heap.size Bs W W') ∨ (e = .returned (.bool false) ∧ Jx (pre ++ [x]) W'))
    (W : World) (hB : Below w0.heap.size w0 W) (hBs : CellsAt W Bs 111 #[.slice A zs.length cap]) (h0 : J [] W) :
    CallsIn F n Tryz.prog 208 #[.func (.yield l) #[] #[], .pointer (some ⟨Bs, 0, none⟩)] W fun e W' => (∃ v, e = .returned v) ∧
      ((∃ ys, ys = upto f zs.length ∧ J ys W') ∨ (∃ pre, (∃ k, k ≤ zs.length ∧ pre = upto f k) ∧ Jx pre W')) := by
  refine callsIn_of_wp Tryz.func208 rfl h7 ?_ hro
  simp only [Tryz.ntmps208, List.size_toArray, List.length_cons, List.length_nil, Nat.reduceAdd, Nat.reduceSub, Array.replicate_succ, Array.replicate_zero, List.push_toArray, List.append_toArray, List.nil_append, List.cons_append]
  have e1 : wrap64 ((zs.length : Int) - 1) = (zs.length : Int) - 1 := by unfold wrap64; omega
  have hc0 : W.cell? ⟨Bs, 0, none⟩ = some (.slice A zs.length cap) := hBs.cell 0
  gi_wp2
  gi_loopw [3] (fun i wr => ∃ k : Nat, k ≤ zs.length ∧ i = .int .i64 ((zs.length : Int) - 1 - k) ∧ J (upto f k) wr ∧ KpB w0.heap.size Bs W wr)
    (fun i _ => (intOf i + 1).toNat)
  case atStart => exact ⟨0, Nat.zero_le _, by simp [*], h0, KpB.refl _ _ _⟩
  case round =>
    obtain ⟨k, hk, rfl, hJs, hnx⟩ := hrel
    have hbx : CellsAt wr Bs 111 #[.slice A zs.length cap] := hnx.2.trans hBs
    have hc1 : wr.cell? ⟨Bs, 0, none⟩ = some (.slice A zs.length cap) := hbx.cell 0
    have hCr := Kd.C_below hC (hB.trans hnx.1)
    by_cases hlt : k < zs.length
    · obtain ⟨fn, tmps, assign, body, hy, hR⟩ := hY _ (f k) wr hJs (by rw [upto_length]; exact hlt)
      rw [hf k hlt] at hy
      simp only [encI, bwI] at hy
      obtain ⟨i, hi⟩ : ∃ i : Int, (zs.length : Int) - 1 - k = i := ⟨_, rfl⟩
      rw [hi] at hy ⊢
      have p0 : 0 ≤ i := by omega
      have q0 : i < (zs.length : Int) := by omega
      obtain ⟨ad, eA, hx0⟩ := Kd.at_int hCr i p0 q0
      subst eA
      have p0' := eq_true p0
      have q0' := eq_true q0
      have d0 : decide (i < 0) = false := decide_eq_false (by omega)
      have d1 : decide (0 ≤ i) = true := decide_eq_true p0
      gi_wp2
      refine hR.mono ?_
      rintro e W3 (⟨rfl, hJ3, hk3⟩ | ⟨rfl, hJx3⟩)
      · have e2 : wrap64 (i - 1) = i - 1 := by unfold wrap64; omega
        gi_wp2
        go_roundw
        case rel => exact ⟨k + 1, by omega, by simp [*]; omega, by rw [upto_succ]; exact hJ3, hnx.trans hk3⟩
        case measure => simp [intOf, e2]; omega
      · gi_wp2
        refine bodyPost_ret (results_none rfl _ _ _) rfl ?_
        exact ⟨⟨_, rfl⟩, .inr ⟨_, ⟨k + 1, by omega, (upto_succ _ _).symm⟩, hJx3⟩⟩
    · obtain rfl : k = zs.length := by omega
      have d0 : decide (0 ≤ (zs.length : Int) - 1 - zs.length) = false := decide_eq_false (by omega)
      gi_wp2
      go_end0
      exact ⟨⟨_, rfl⟩, .inl ⟨_, rfl, hJs⟩⟩
set_option maxHeartbeats 1000000 in
theorem backI_in (F : Fence) (n : Nat) (h5 : F.fn 166) (hro : F.round = none) (a : Option Addr) (len cap : Nat) (w : World) :
    CallsIn F n Tryz.prog 166 #[.slice a len cap] w fun e w' => e = .returned (.func (.func 208) #[] #[.pointer (some ⟨w.heap.size, 0, none⟩)]) ∧ w' = w.alloc (.cells #[.slice a len cap] 111) := by
  refine callsIn_of_wp Tryz.func166 rfl h5 ?_ hro
  simp only [Tryz.ntmps166, List.size_toArray, List.length_cons, List.length_nil, Nat.reduceAdd, Nat.reduceSub, Array.replicate_succ, Array.replicate_zero, List.push_toArray, List.append_toArray, List.nil_append, List.cons_append]
  gi_wp2
  go_ret
  exact ⟨rfl, rfl⟩
theorem backI_stops {α : Type} (pr : α → Int × Int) (f : Nat → α) (F : Fence) (n : Nat) (h7 : F.fn 208) (hro : F.round = none) (hn : 1 ≤ n) (Bs : Nat) (w0 : World) (A : Option Addr) (cap : Nat) (zs : List Int) (hcap : zs.length ≤ cap) (hlen : zs.length ≤ 1152921504606846976)
    (hC : Kd.C (Kd.int .i64) w0 A zs.length zs) (hf : ∀ k, k < zs.length → pr (f k) = bwI zs k) (w : World) (hB : Below w0.heap.size w0 w) (hBs : CellsAt w Bs 111 #[.slice A zs.length cap]) :
    SeqStopsK F n Tryz.prog 208 #[.pointer (some ⟨Bs, 0, none⟩)] (fun x => encI (pr x)) (KpB w0.heap.size Bs) (fun ys => ys = upto f zs.length)
      (fun pre => ∃ k, k ≤ zs.length ∧ pre = upto f k) zs.length w := fun l J Jx W hW _ _ hY h0 =>
  backI1_in pr f F n h7 hro hn l Bs w0 A cap zs hcap hlen hC hf J Jx hY W (hB.trans (hW.mono hB.size)) (hBs.below hW hBs.lt) h0
theorem grownBy_of_below {W W' : World} (h : Below W.heap.size W W') : W.grownBy W' none := ⟨h.os, h.tape, h.output, h.size, fun k hk _ => h.block k hk⟩
theorem builder_below {T e : TypeId} {B b : Nat} {bs : List Value} {W W' : World} (h : Lib.IsBuilderF T e B b bs W) (hb : Below W.heap.size W W') : Lib.IsBuilderF T e B b bs W' := by
  have key : ∀ p, Lib.BuilderAtF T e B b p bs W → Lib.BuilderAtF T e B b p bs W' := fun p h => by
    obtain ⟨hB, v, hbk, hown, hne⟩ := id h
    refine ⟨hB, v, (hb.block b h.lt).trans hbk, hown.kept (grownBy_of_below hb) ?_, hne⟩
    by_cases hv : v.ownBlock = none
    · exact .inl hv
    · exact .inr hv
  exact h.imp (key _) (key _)
theorem keepsFrom_of_others {e : TypeId} {b n : Nat} {W W' : World} (hs : W.heap.size ≤ W'.heap.size) (h : Lib.OthersKept e (some b) W W') (hc : ∃ cs t fz, W.heap[b]? = some (.cells cs t fz)) : KeepsFrom n W W' :=
  ⟨hs, fun k o _ hk ho => h k o hk (fun e' => by cases e'; obtain ⟨cs, t, fz, hc⟩ := hc; rw [hk] at hc; cases hc; cases ho) (fun c fz e' => by subst e'; cases ho)⟩
theorem keepsFrom_of_below {n : Nat} {W W' : World} (h : Below W.heap.size W W') : KeepsFrom n W W' :=
  ⟨h.size, fun k o _ hk _ => (h.block k (Array.getElem?_eq_some_iff.1 hk).1).trans hk⟩
/-- A builder stays one while what is no cells turns. -/
theorem builder_own {β : Type} (T e : TypeId) (B b : Nat) (f : β → List Value) : Own (fun s W => Lib.IsBuilderF T e B b (f s) W) := fun s X Y row hs hg hr => by
  have key : ∀ p, Lib.BuilderAtF T e B b p (f s) X → Lib.BuilderAtF T e B b p (f s) Y := fun p h => by
    obtain ⟨hB, v, hbk, hown, hne⟩ := id h
    refine ⟨hB, v, (hg.block b h.lt (fun e' => ?_)).trans hbk, hown.kept hg ?_, hne⟩
    · obtain ⟨o, ho, hc⟩ := hr b e'.symm
      rw [hbk] at ho; cases ho; cases hc
    · by_cases hv : v.ownBlock = none
      · exact .inl hv
      · refine .inr fun e' => ?_
        obtain ⟨g, hgk⟩ := Option.ne_none_iff_exists'.1 hv
        obtain ⟨o, ho, hc⟩ := hr g (by rw [← e', hgk])
        obtain ⟨c, fz, hk⟩ := Lib.ownsRowF_kind hown g hgk
        rw [hk] at ho; cases ho; cases hc
  exact hs.imp (key _) (key _)
/-- A limb, and its place. -/
abbrev Limb := { x : Int × Int // 0 ≤ x.2 ∧ x.2 ≤ 9999 }
theorem rd_limb {zs : List Int} (hz : ∀ y ∈ zs, 0 ≤ y ∧ y ≤ 9999) (i : Int) : 0 ≤ rd zs i ∧ rd zs i ≤ 9999 := by
  unfold rd
  rw [List.getD_eq_getElem?_getD]
  cases h : zs[i.toNat]? with
  | none => simp
  | some y => exact hz y (List.mem_of_getElem? h)
def limbAt (zs : List Int) (hz : ∀ y ∈ zs, 0 ≤ y ∧ y ≤ 9999) (k : Nat) : Limb := ⟨bwI zs k, rd_limb hz _⟩
/-- A limb's figures: the top one as it is, any other four figures wide. -/
def piece (n : Int) (x : Int × Int) : List UInt8 := if x.1 < n - 1 then Lib.repeatL [48] (4 - (Lib.itoa x.2).length) ++ Lib.itoa x.2 else Lib.itoa x.2
theorem decDigits_len : ∀ (k u : Nat), u < 10 ^ (k + 1) → (Lib.decDigits u).length ≤ k + 1 := by
  intro k
  induction k with
  | zero => intro u h; rw [Lib.decDigits, dif_pos (by simpa using h)]; simp
  | succ k ih =>
    intro u h
    rw [Lib.decDigits]
    by_cases hu : u < 10
    · rw [dif_pos hu]; simp
    · rw [dif_neg hu, List.length_append]
      have := ih (u / 10) (by rw [Nat.pow_succ] at h; omega)
      simp only [List.length_cons, List.length_nil]
      omega
theorem itoa_len (x : Int) (h0 : 0 ≤ x) (h1 : x ≤ 9999) : (Lib.itoa x).length ≤ 4 := by
  unfold Lib.itoa
  rw [if_neg (by omega)]
  exact decDigits_len 3 x.toNat (by omega)
/-- Limbs as a text. -/
def textF (zs : List Int) : List UInt8 := if zs = [] then [48] else (upto (bwI zs) zs.length).flatMap (piece zs.length)
end Go.Proofs.YtiojgdjpigcgaaaGreatDoor.Q
end

section
/-! Rf: slices.Backward keeps its contract. -/
set_option autoImplicit false
set_option linter.unusedVariables false
set_option linter.unusedSimpArgs false
namespace Go.Proofs.YtiojgdjpigcgaaaGreatDoor.R
open Go.Rf
section
open Go.Shelf Go.RowKit Go.Proofs.YtiojgdjpigcgaaaGreatDoor.Q Go.Proofs.YtiojgdjpigcgaaaGreatDoorW.PrintWords Go.Proofs.YtiojgdjpigcgaaaGreatDoorW.PrintLast Go.Proofs.YtiojgdjpigcgaaaGreatDoorW.PrintMore
attribute [local go_sem] Oper.semAt_some
set_option maxRecDepth 100000 in
set_option maxHeartbeats 2000000 in
theorem iter_ok : IterOk Tryz.prog 208 := by
  intro B T A cap vs l J W hcap hlen hJ hY h0
  refine (callsIn_wide (n := 1)).1 ?_
  refine callsIn_of_wp Tryz.func208 rfl trivial ?_ rfl
  simp only [Tryz.ntmps208, List.size_toArray, List.length_cons, List.length_nil, Nat.reduceAdd, Nat.reduceSub, Array.replicate_succ, Array.replicate_zero, List.push_toArray, List.append_toArray, List.nil_append, List.cons_append]
  have e1 : Go.RowKit.wrap64 ((vs.length : Int) - 1) = (vs.length : Int) - 1 := by unfold Go.RowKit.wrap64; omega
  have hc0 : W.cell? ⟨B, 0, none⟩ = some (.slice A vs.length cap) := by simp [World.cell?, (hJ 0 W h0).1]
  gi_wp2
  gi_loopw [3] (fun i wr => ∃ k : Nat, k ≤ vs.length ∧ i = .int .i64 ((vs.length : Int) - 1 - k) ∧ J k wr)
    (fun i _ => (intOf i + 1).toNat)
  case atStart => exact ⟨0, Nat.zero_le _, by simp [*], h0⟩
  case round =>
    obtain ⟨k, hk, rfl, hJs⟩ := hrel
    obtain ⟨hbx, hcs⟩ := hJ k wr hJs
    have hc1 : wr.cell? ⟨B, 0, none⟩ = some (.slice A vs.length cap) := by simp [World.cell?, hbx]
    by_cases hlt : k < vs.length
    · obtain ⟨u, hu⟩ : ∃ u, vs[vs.length - 1 - k]? = some u := ⟨vs[vs.length - 1 - k]'(by omega), List.getElem?_eq_getElem (by omega)⟩
      obtain ⟨ad, eA, hspot, hx0⟩ := hcs _ u hu
      obtain ⟨fn, tmps, assign, body, hy, hR⟩ := hY k wr u hJs hlt hu
      have ei : ((vs.length - 1 - k : Nat) : Int) = (vs.length : Int) - 1 - k := by omega
      rw [ei] at hy
      obtain ⟨i, hi⟩ : ∃ i : Int, (vs.length : Int) - 1 - k = i := ⟨_, rfl⟩
      rw [hi] at hy ⊢
      have p0 : 0 ≤ i := by omega
      have q0 : i < (vs.length : Int) := by omega
      have ein : vs.length - 1 - k = i.toNat := by omega
      rw [ein] at hx0
      subst eA
      have p0' := eq_true p0
      have q0' := eq_true q0
      have d0 : decide (i < 0) = false := decide_eq_false (by omega)
      have d1 : decide (0 ≤ i) = true := decide_eq_true p0
      gi_wp2
      refine hR.mono ?_
      rintro e W3 ⟨rfl, hJ3⟩
      have e2 : Go.RowKit.wrap64 (i - 1) = i - 1 := by unfold Go.RowKit.wrap64; omega
      gi_wp2
      go_roundw
      case rel => exact ⟨k + 1, by omega, by simp [*]; omega, hJ3⟩
      case measure => simp [intOf, e2]; omega
    · obtain rfl : k = vs.length := by omega
      have d0 : decide (0 ≤ (vs.length : Int) - 1 - vs.length) = false := decide_eq_false (by omega)
      gi_wp2
      go_end0
      exact ⟨⟨_, rfl⟩, hJs⟩
theorem back_ok : BackOk Tryz.prog 166 208 111 := fun A len cap w => callsIn_wide.1 (Q.backI_in Fence.wide 9 trivial rfl A len cap w)
theorem iter_known : isKnown Tryz.prog 208 = true := by kernel_rfl
end
theorem backs_ok : BacksOk Tryz.prog [(166, 208, 111)] := ⟨⟨back_ok, iter_ok, iter_known⟩, trivial⟩
end Go.Proofs.YtiojgdjpigcgaaaGreatDoor.R
end

section
/-! Rf: the seat's tables. -/
set_option autoImplicit false
namespace Go.Proofs.YtiojgdjpigcgaaaGreatDoor.R
open Go.Rf
noncomputable def tabs : Tabs where
  ty := [(3, ⟨false, [.int .i64], [], 8⟩),
    (4, ⟨false, [.bool], [], 1⟩),
    (5, ⟨false, [.int .u8], [], 1⟩),
    (9, ⟨false, [.str], [], 16⟩),
    (21, ⟨false, [.int .i32], [], 4⟩),
    (22, ⟨false, [.sl (.int .u8)], [], 24⟩),
    (23, ⟨false, [.sl (.int .i64)], [], 24⟩),
    (25, ⟨true, [.bool, .sl (.int .i64)], [(0, 1, false), (1, 1, false)], 32⟩),
    (27, ⟨true, [.bool, .sl (.int .i64), .int .i64], [(0, 2, true), (2, 1, false)], 40⟩),
    (29, ⟨true, [.int .i64, .int .i64], [(0, 1, false), (1, 1, false)], 16⟩),
    (31, ⟨true, [.int .i64, .bool, .bool, .sl (.int .i64), .int .i64, .int .i64, .int .i64, .int .i64, .str], [(0, 1, false), (1, 1, false), (2, 3, true), (5, 1, false), (6, 2, true), (8, 1, false)], 96⟩),
    (49, ⟨true, [.bool, .sl (.int .i64)], [(0, 1, false), (1, 1, false)], 32⟩),
    (51, ⟨true, [.bool, .sl (.int .i64), .int .i64], [(0, 2, true), (2, 1, false)], 40⟩),
    (52, ⟨true, [.int .i64, .int .i64], [(0, 1, false), (1, 1, false)], 16⟩),
    (54, ⟨true, [.int .i64, .bool, .bool, .sl (.int .i64), .int .i64, .int .i64, .int .i64, .int .i64, .str], [(0, 1, false), (1, 1, false), (2, 3, true), (5, 1, false), (6, 2, true), (8, 1, false)], 96⟩),
    (111, ⟨false, [.sl (.int .i64)], [], 24⟩),
    (153, ⟨false, [.err], [], 16⟩),
    (192, ⟨false, [.int .u64], [], 8⟩)]
  el := [(22, 5), (23, 3), (111, 3)]
  ifcs := []
  known := [4, 6, 13, 14, 15, 16, 17, 18, 23, 24, 25, 33, 35, 37, 38, 39, 40, 41, 42, 43, 44, 45, 46, 47, 48, 58, 65, 66, 67, 68, 71, 72, 73, 74, 77, 78, 79, 80, 81, 82, 85, 86, 87, 88, 89, 90, 91, 92, 94, 95, 96, 97, 106, 107, 108, 109, 111, 116, 117, 122, 123, 124, 125, 128, 129, 130, 131, 132, 133, 139, 140, 141, 143, 144, 145, 149, 150, 151, 152, 155, 161, 165, 166, 172, 173, 178, 179, 190, 191, 192, 196, 199, 200, 202, 203, 204, 206, 207, 224, 225, 227, 228, 238, 239]
  spec := [(4, ⟨[.c (.v .str), .c (.v .bool)], [.c (.v .bool)]⟩),
    (6, ⟨[.agg [.v (.int .i64), .v .bool, .v .bool, .v (.sl (.int .i64)), .v (.int .i64), .v (.int .i64), .v (.int .i64), .v (.int .i64), .v .str], .c (.v .bool)], [.c (.v .bool)]⟩),
    (13, ⟨[.agg [.v (.int .i64), .v .bool, .v .bool, .v (.sl (.int .i64)), .v (.int .i64), .v (.int .i64), .v (.int .i64), .v (.int .i64), .v .str], .c (.v .bool)], [.c (.v .str)]⟩),
    (14, ⟨[.c (.v .str), .c (.v .bool)], [.agg [.v (.int .i64), .v .bool, .v .bool, .v (.sl (.int .i64)), .v (.int .i64), .v (.int .i64), .v (.int .i64), .v (.int .i64), .v .str], .c (.v (.int .i64)), .c (.v .bool)]⟩),
    (15, ⟨[.c (.v .str), .c (.v .bool)], [.agg [.v (.int .i64), .v .bool, .v .bool, .o (.int .i64) 3 true, .v (.int .i64), .v (.int .i64), .v (.int .i64), .v (.int .i64), .v .str], .c (.v (.int .i64)), .c (.v .bool)]⟩),
    (16, ⟨[.agg [.v (.int .i64), .v .bool, .v .bool, .v (.sl (.int .i64)), .v (.int .i64), .v (.int .i64), .v (.int .i64), .v (.int .i64), .v .str], .agg [.v (.int .i64), .v .bool, .v .bool, .v (.sl (.int .i64)), .v (.int .i64), .v (.int .i64), .v (.int .i64), .v (.int .i64), .v .str]], [.c (.v .bool)]⟩),
    (17, ⟨[.agg [.v (.int .i64), .v .bool, .v .bool, .o (.int .i64) 3 true, .v (.int .i64), .v (.int .i64), .v (.int .i64), .v (.int .i64), .v .str], .c (.v (.int .i64))], [.c (.v (.int .i64))]⟩),
    (18, ⟨[.agg [.v (.int .i64), .v .bool, .v .bool, .v (.sl (.int .i64)), .v (.int .i64), .v (.int .i64), .v (.int .i64), .v (.int .i64), .v .str], .c (.v (.int .i64))], [.c (.v (.int .i64))]⟩),
    (23, ⟨[.agg [.v (.int .i64), .v .bool, .v .bool, .v (.sl (.int .i64)), .v (.int .i64), .v (.int .i64), .v (.int .i64), .v (.int .i64), .v .str], .c (.v (.int .i64))], [.c (.v (.int .i64))]⟩),
    (24, ⟨[.agg [.v (.int .i64), .v .bool, .v .bool, .v (.sl (.int .i64)), .v (.int .i64), .v (.int .i64), .v (.int .i64), .v (.int .i64), .v .str], .c (.v .bool)], [.c (.v .str)]⟩),
    (25, ⟨[.agg [.v (.int .i64), .v .bool, .v .bool, .v (.sl (.int .i64)), .v (.int .i64), .v (.int .i64), .v (.int .i64), .v (.int .i64), .v .str]], [.agg [.v (.int .i64), .v .bool, .v .bool, .v (.sl (.int .i64)), .v (.int .i64), .v (.int .i64), .v (.int .i64), .v (.int .i64), .v .str]]⟩),
    (33, ⟨[.agg [.v (.int .i64), .v .bool, .v .bool, .v (.sl (.int .i64)), .v (.int .i64), .v (.int .i64), .v (.int .i64), .v (.int .i64), .v .str]], [.c (.v .bool)]⟩),
    (35, ⟨[.agg [.v (.int .i64), .v .bool, .v .bool, .v (.sl (.int .i64)), .v (.int .i64), .v (.int .i64), .v (.int .i64), .v (.int .i64), .v .str]], [.c (.v .bool)]⟩),
    (37, ⟨[.agg [.v (.int .i64), .v .bool, .v .bool, .v (.sl (.int .i64)), .v (.int .i64), .v (.int .i64), .v (.int .i64), .v (.int .i64), .v .str], .c (.v .bool)], [.c (.v (.sl (.int .u8)))]⟩),
    (38, ⟨[.c (.v .str), .c (.v .bool)], [.agg [.v (.int .i64), .v .bool, .v .bool, .v (.sl (.int .i64)), .v (.int .i64), .v (.int .i64), .v (.int .i64), .v (.int .i64), .v .str], .c (.v (.int .i64))]⟩),
    (39, ⟨[.c (.v (.sl (.int .u8)))], [.c (.v (.sl (.int .u8)))]⟩),
    (40, ⟨[.c (.v (.int .i64)), .c (.v (.int .i64)), .c (.v (.int .i64))], [.c (.v .bool)]⟩),
    (41, ⟨[.c (.v (.sl (.int .u8)))], [.agg [.v .bool, .o (.int .i64) 3 true, .v (.int .i64)]]⟩),
    (42, ⟨[.c (.v (.sl (.int .u8)))], [.c (.v (.int .i64))]⟩),
    (43, ⟨[.c (.v .str), .c (.v .str)], [.c (.v .str), .c (.v .str), .c (.v .bool)]⟩),
    (44, ⟨[.c (.v .str), .c (.v .str)], [.c (.v .bool)]⟩),
    (45, ⟨[.agg [.v .bool, .v (.sl (.int .i64)), .v (.int .i64)], .agg [.v .bool, .v (.sl (.int .i64)), .v (.int .i64)]], [.c (.v .bool)]⟩),
    (46, ⟨[.agg [.v (.int .i64), .v (.int .i64)], .agg [.v (.int .i64), .v (.int .i64)]], [.c (.v .bool)]⟩),
    (47, ⟨[.agg [.v .bool, .o (.int .i64) 3 true, .v (.int .i64)], .c (.v (.int .i64))], [.c (.v (.int .i64))]⟩),
    (48, ⟨[.agg [.v .bool, .v (.sl (.int .i64)), .v (.int .i64)], .c (.v (.int .i64))], [.c (.v (.int .i64))]⟩),
    (65, ⟨[.agg [.v .bool, .v (.sl (.int .i64)), .v (.int .i64)], .c (.v (.int .i64))], [.c (.v (.int .i64))]⟩),
    (66, ⟨[.agg [.v (.int .i64), .v .bool, .v .bool, .v (.sl (.int .i64)), .v (.int .i64), .v (.int .i64), .v (.int .i64), .v (.int .i64), .v .str], .c (.v .bool)], [.c (.v .str)]⟩),
    (67, ⟨[.agg [.v .bool, .v (.sl (.int .i64)), .v (.int .i64)]], [.agg [.v .bool, .v (.sl (.int .i64)), .v (.int .i64)]]⟩),
    (68, ⟨[.agg [.v (.int .i64), .v (.int .i64)]], [.agg [.v (.int .i64), .v (.int .i64)]]⟩),
    (71, ⟨[.agg [.v .bool, .v (.sl (.int .i64)), .v (.int .i64)]], [.c (.v .bool)]⟩),
    (72, ⟨[.c (.v (.int .i64))], [.c (.v .bool)]⟩),
    (73, ⟨[.agg [.v (.int .i64), .v (.int .i64)]], [.c (.v .bool)]⟩),
    (74, ⟨[.agg [.v .bool, .v (.sl (.int .i64)), .v (.int .i64)]], [.c (.v .bool)]⟩),
    (77, ⟨[.c (.v (.int .i64)), .c (.v (.int .i64)), .c (.v (.int .i64))], [.c (.v .bool)]⟩),
    (78, ⟨[.agg [.v (.int .i64), .v .bool, .v .bool, .v (.sl (.int .i64)), .v (.int .i64), .v (.int .i64), .v (.int .i64), .v (.int .i64), .v .str]], [.c (.v .bool)]⟩),
    (79, ⟨[.agg [.v .bool, .v (.sl (.int .i64)), .v (.int .i64)]], [.c (.v .bool)]⟩),
    (80, ⟨[.c (.v (.int .i64))], [.c (.v .bool)]⟩),
    (81, ⟨[.agg [.v (.int .i64), .v (.int .i64)]], [.c (.v .bool)]⟩),
    (82, ⟨[.c (.v .str)], [.c (.v .bool)]⟩),
    (85, ⟨[.c (.v .bool)], [.c (.v (.int .i64))]⟩),
    (86, ⟨[.agg [.v .bool, .v (.sl (.int .i64)), .v (.int .i64)]], [.c (.v (.sl (.int .u8)))]⟩),
    (87, ⟨[.c (.v (.int .i64))], [.c (.v (.sl (.int .u8)))]⟩),
    (88, ⟨[.c (.v .str)], [.c (.v .str)]⟩),
    (89, ⟨[.c (.v .str)], [.agg [.v (.int .i64), .v .bool, .v .bool, .v (.sl (.int .i64)), .v (.int .i64), .v (.int .i64), .v (.int .i64), .v (.int .i64), .v .str], .c (.v (.int .i64))]⟩),
    (90, ⟨[.c (.v .str), .c (.v (.int .i64))], [.c (.v .str)]⟩),
    (91, ⟨[.c (.v .bool), .c (.v (.sl (.int .i64)))], [.agg [.v .bool, .o (.int .i64) 3 true], .c (.v .bool)]⟩),
    (92, ⟨[.c (.v .str)], [.c (.v (.sl (.int .i64)))]⟩),
    (94, ⟨[.c (.v .str), .c (.v .str)], [.c (.v .bool)]⟩),
    (95, ⟨[.agg [.v .bool, .v (.sl (.int .i64))], .agg [.v .bool, .v (.sl (.int .i64))]], [.c (.v .bool)]⟩),
    (96, ⟨[.agg [.v .bool, .o (.int .i64) 3 true], .c (.v (.int .i64))], [.c (.v (.int .i64))]⟩),
    (97, ⟨[.agg [.v .bool, .v (.sl (.int .i64))], .c (.v (.int .i64))], [.c (.v (.int .i64))]⟩),
    (107, ⟨[.agg [.v .bool, .v (.sl (.int .i64))], .c (.v (.int .i64))], [.c (.v (.int .i64))]⟩),
    (108, ⟨[.agg [.v (.int .i64), .v .bool, .v .bool, .v (.sl (.int .i64)), .v (.int .i64), .v (.int .i64), .v (.int .i64), .v (.int .i64), .v .str]], [.c (.v .str)]⟩),
    (109, ⟨[.agg [.v .bool, .v (.sl (.int .i64))]], [.agg [.v .bool, .v (.sl (.int .i64))]]⟩),
    (111, ⟨[.agg [.v .bool, .v (.sl (.int .i64)), .v (.int .i64)]], [.agg [.v (.int .i64), .v .bool, .v .bool, .v (.sl (.int .i64)), .v (.int .i64), .v (.int .i64), .v (.int .i64), .v (.int .i64), .v .str]]⟩),
    (116, ⟨[.agg [.v .bool, .v (.sl (.int .i64))]], [.c (.v .bool)]⟩),
    (117, ⟨[.c (.v (.sl (.int .i64)))], [.c (.v (.int .i64))]⟩),
    (122, ⟨[.agg [.v .bool, .v (.sl (.int .i64)), .v (.int .i64)]], [.c (.v .bool)]⟩),
    (123, ⟨[.agg [.v .bool, .v (.sl (.int .i64))]], [.c (.v .bool)]⟩),
    (124, ⟨[.c (.v (.sl (.int .i64)))], [.c (.v (.int .i64))]⟩),
    (125, ⟨[.c (.v .bool)], [.c (.v (.int .i64))]⟩),
    (128, ⟨[.agg [.v .bool, .v (.sl (.int .i64)), .v (.int .i64)]], [.agg [.v .bool, .v (.sl (.int .i64)), .v (.int .i64)]]⟩),
    (129, ⟨[.c (.v (.sl (.int .i64)))], [.c (.v .str)]⟩),
    (130, ⟨[.c (.v .str), .c (.v .str)], [.c (.v .str)]⟩),
    (131, ⟨[.c (.v .str), .c (.v (.int .i64))], [.agg [.v .bool, .v (.sl (.int .i64)), .v (.int .i64)], .c (.v (.int .i64))]⟩),
    (132, ⟨[.c (.v .str), .c (.v (.int .i64))], [.c (.v (.int .i64))]⟩),
    (133, ⟨[.c (.v .str), .c (.v (.int .i64))], [.c (.v (.int .i64))]⟩),
    (139, ⟨[.c (.v (.sl (.int .i64)))], [.c (.v (.sl (.int .i64)))]⟩),
    (140, ⟨[.c (.v (.sl (.int .i64)))], [.c (.o (.int .i64) 3 true)]⟩),
    (141, ⟨[.c (.v .str)], [.c (.v (.int .i64)), .c (.v .err)]⟩),
    (143, ⟨[.c (.v (.sl (.int .i64))), .c (.v (.sl (.int .i64)))], [.c (.v .bool)]⟩),
    (144, ⟨[.c (.o (.int .i64) 3 true), .c (.v (.int .i64))], [.c (.v (.int .i64))]⟩),
    (145, ⟨[.c (.v (.sl (.int .i64))), .c (.v (.int .i64))], [.c (.v (.int .i64))]⟩),
    (149, ⟨[.c (.v (.sl (.int .i64))), .c (.v (.int .i64))], [.c (.v (.int .i64))]⟩),
    (150, ⟨[.agg [.v .bool, .v (.sl (.int .i64)), .v (.int .i64)]], [.c (.v .str)]⟩),
    (151, ⟨[.c (.v (.int .i64))], [.c (.v .str)]⟩),
    (152, ⟨[.c (.v (.sl (.int .i64)))], [.c (.v (.sl (.int .i64)))]⟩),
    (155, ⟨[.c (.v (.int .i64))], [.c (.v .bool)]⟩),
    (161, ⟨[.c (.v (.sl (.int .i64)))], [.c (.v .str)]⟩),
    (165, ⟨[.c (.v (.sl (.int .i64))), .c (.v (.sl (.int .i64)))], [.c (.v (.sl (.int .i64))), .c (.v (.sl (.int .i64)))]⟩),
    (172, ⟨[.c (.v .str)], [.c (.v .str)]⟩),
    (173, ⟨[.c (.v .bool), .c (.v .str), .c (.v (.int .i64))], [.agg [.v .bool, .v (.sl (.int .i64)), .v (.int .i64)], .c (.v .bool)]⟩),
    (178, ⟨[.c (.o (.int .i64) 3 false)], [.c (.o (.int .i64) 3 true)]⟩),
    (179, ⟨[.c (.v (.sl (.int .i64)))], [.c (.o (.int .i64) 3 true)]⟩),
    (190, ⟨[.c (.v .str)], [.c (.v (.sl (.int .i64)))]⟩),
    (191, ⟨[.agg [.v .bool, .v (.sl (.int .i64)), .v (.int .i64)]], [.agg [.v .bool, .v (.sl (.int .i64)), .v (.int .i64)]]⟩),
    (192, ⟨[.c (.v .str)], [.c (.v .str)]⟩),
    (196, ⟨[.c (.v (.sl (.int .i64))), .c (.v (.sl (.int .i64)))], [.c (.v (.sl (.int .i64)))]⟩),
    (199, ⟨[.c (.v (.sl (.int .i64))), .c (.v (.sl (.int .i64)))], [.c (.v (.int .i64))]⟩),
    (200, ⟨[.c (.v (.sl (.int .i64))), .c (.v (.sl (.int .i64)))], [.c (.v (.sl (.int .i64)))]⟩),
    (202, ⟨[.c (.v (.int .i64))], [.c (.v .str)]⟩),
    (203, ⟨[.c (.v (.int .i64)), .c (.v (.int .i64))], [.c (.v .str)]⟩),
    (204, ⟨[.c (.v (.sl (.int .i64))), .c (.v (.sl (.int .i64)))], [.c (.v (.sl (.int .i64)))]⟩),
    (206, ⟨[.c (.v (.sl (.int .i64))), .c (.v (.sl (.int .i64)))], [.c (.v (.int .i64))]⟩),
    (207, ⟨[.c (.v (.int .u64))], [.c (.v (.sl (.int .i64)))]⟩),
    (224, ⟨[.c (.v (.sl (.int .i64)))], [.c (.o (.int .i64) 3 true)]⟩),
    (225, ⟨[.c (.v (.sl (.int .i64))), .c (.v (.sl (.int .i64)))], [.c (.v (.sl (.int .i64))), .c (.v (.sl (.int .i64)))]⟩),
    (227, ⟨[.c (.v (.sl (.int .i64)))], [.c (.o (.int .i64) 3 true)]⟩),
    (228, ⟨[.c (.v (.sl (.int .i64))), .c (.v (.int .i64))], [.c (.v (.int .i64))]⟩),
    (238, ⟨[.c (.v (.sl (.int .i64))), .c (.v (.sl (.int .i64)))], [.c (.v (.int .i64))]⟩),
    (239, ⟨[.c (.v (.sl (.int .i64))), .c (.v (.sl (.int .i64)))], [.c (.o (.int .i64) 3 true)]⟩),
    (156058, ⟨[.c (.v (.sl (.int .i64))), .clo 155 []], [.c (.v .bool)]⟩),
    (156106, ⟨[.c (.v (.sl (.int .i64))), .clo 155 []], [.c (.v (.int .i64))]⟩),
    (1018165, ⟨[.c (.v (.int .i64)), .c (.v (.int .i64)), .box [.v (.sl (.int .i64))], .box [.o (.int .i64) 3 true], .box [.v (.sl (.int .i64))]], []⟩)]
  cut := [(15, [(4, [(0, .c (.v .str)), (1, .c (.v .bool)), (4, .box [.v (.int .i64), .v .bool, .v .bool, .v (.sl (.int .i64)), .v (.int .i64), .v (.int .i64), .v (.int .i64), .v (.int .i64), .v .str]), (7, .c (.v (.sl (.int .u8))))]), (18, [(0, .c (.v .str)), (1, .c (.v .bool)), (4, .box [.v (.int .i64), .v .bool, .v .bool, .v (.sl (.int .i64)), .v (.int .i64), .v (.int .i64), .v (.int .i64), .v (.int .i64), .v .str]), (8, .box [.v (.int .i64), .v .bool, .v .bool, .o (.int .i64) 3 true, .v (.int .i64), .v (.int .i64), .v (.int .i64), .v (.int .i64), .v .str])])]),
    (33, [(17, [(1, .box [.v (.int .i64), .v .bool, .v .bool, .v (.sl (.int .i64)), .v (.int .i64), .v (.int .i64), .v (.int .i64), .v (.int .i64), .v .str]), (3, .box [.v (.int .i64), .v .bool, .v .bool, .v (.sl (.int .i64)), .v (.int .i64), .v (.int .i64), .v (.int .i64), .v (.int .i64), .v .str]), (4, .c (.v .bool)), (43, .c (.v (.int .i64))), (44, .c (.v (.int .i64)))]), (21, [(3, .box [.v (.int .i64), .v .bool, .v .bool, .v (.sl (.int .i64)), .v (.int .i64), .v (.int .i64), .v (.int .i64), .v (.int .i64), .v .str]), (4, .c (.v .bool))])]),
    (37, [(13, [(1, .c (.v .bool)), (5, .c (.o (.int .u8) 5 true))])]),
    (38, [(5, [(0, .c (.v .str)), (4, .box [.v (.int .i64), .v .bool, .v .bool, .v (.sl (.int .i64)), .v (.int .i64), .v (.int .i64), .v (.int .i64), .v (.int .i64), .v .str])])]),
    (39, [(3, [(3, .c (.o (.int .u8) 5 true)), (9, .c (.v (.sl (.int .u8)))), (10, .c (.v (.int .i64))), (11, .c (.v (.int .i64)))])]),
    (41, [(6, [(0, .c (.v (.sl (.int .u8)))), (2, .box [.v .bool, .v (.sl (.int .i64)), .v (.int .i64)]), (3, .c (.v (.sl (.int .u8))))]), (9, [(0, .c (.v (.sl (.int .u8)))), (2, .box [.v .bool, .v (.sl (.int .i64)), .v (.int .i64)]), (4, .c (.v (.int .i64))), (5, .c (.v .str)), (40, .c (.v (.sl (.int .u8)))), (41, .c (.v (.int .i64))), (42, .c (.v (.int .i64)))])]),
    (82, [(2, [(0, .c (.v .str)), (3, .c (.v (.int .i64)))])]),
    (86, [(7, [(1, .box [.v .bool, .v (.sl (.int .i64)), .v (.int .i64)]), (4, .c (.o (.int .u8) 5 true)), (29, .c (.v (.sl (.int .u8)))), (30, .c (.v (.int .i64))), (31, .c (.v (.int .i64)))])]),
    (88, [(3, [(0, .c (.v .str)), (3, .c (.o (.int .u8) 5 true)), (4, .c (.v (.int .i64)))])]),
    (89, [(24, [(2, .box [.v (.int .i64), .v .bool, .v .bool, .v (.sl (.int .i64)), .v (.int .i64), .v (.int .i64), .v (.int .i64), .v (.int .i64), .v .str]), (4, .box [.v (.int .i64), .v .bool, .v .bool, .v (.sl (.int .i64)), .v (.int .i64), .v (.int .i64), .v (.int .i64), .v (.int .i64), .v .str])])]),
    (92, [(3, [(0, .c (.v .str)), (3, .c (.o (.int .i64) 3 true)), (4, .c (.v (.int .i64)))])]),
    (123, [(4, [(1, .box [.v .bool, .v (.sl (.int .i64))]), (3, .c (.v (.int .i64)))])]),
    (128, [(4, [(1, .box [.v .bool, .v (.sl (.int .i64)), .v (.int .i64)]), (2, .box [.v .bool, .v (.sl (.int .i64)), .v (.int .i64)]), (3, .c (.v (.sl (.int .i64)))), (4, .c (.v (.int .i64)))])]),
    (131, [(11, [(1, .c (.v (.int .i64))), (4, .box [.v .bool, .v (.sl (.int .i64)), .v (.int .i64)]), (6, .c (.v .bool)), (7, .c (.v .str))])]),
    (133, [(2, [(0, .c (.v .str)), (5, .c (.v (.int .i64)))])]),
    (139, [(1, [(0, .c (.v (.sl (.int .i64))))])]),
    (143, [(4, [(0, .c (.v (.sl (.int .i64)))), (1, .c (.v (.sl (.int .i64)))), (5, .c (.v (.int .i64)))])]),
    (144, [(2, [(0, .c (.o (.int .i64) 3 true)), (1, .c (.v (.int .i64))), (5, .c (.v (.int .i64)))])]),
    (145, [(2, [(0, .c (.v (.sl (.int .i64)))), (1, .c (.v (.int .i64))), (5, .c (.v (.int .i64)))])]),
    (150, [(7, [(1, .box [.v .bool, .v (.sl (.int .i64)), .v (.int .i64)]), (4, .c (.v .str)), (5, .c (.v (.int .i64))), (6, .c (.v (.int .i64)))])]),
    (152, [(3, [(0, .c (.v (.sl (.int .i64)))), (3, .c (.o (.int .i64) 3 true)), (4, .c (.v (.int .i64)))])]),
    (161, [(5, [(0, .c (.v (.sl (.int .i64)))), (3, .c (.v .str)), (4, .c (.v (.int .i64)))])]),
    (165, [(15, [(6, .box [.v (.sl (.int .i64))]), (7, .box [.v (.sl (.int .i64))])])]),
    (172, [(3, [(0, .c (.v .str)), (3, .c (.v .str)), (4, .c (.v (.int .i64)))])]),
    (173, [(4, [(0, .c (.v .bool)), (1, .c (.v .str)), (2, .c (.v (.int .i64))), (6, .box [.v .bool, .v (.sl (.int .i64)), .v (.int .i64)]), (8, .c (.v (.int .i64)))]), (6, [(0, .c (.v .bool)), (1, .c (.v .str)), (2, .c (.v (.int .i64))), (6, .box [.v .bool, .v (.sl (.int .i64)), .v (.int .i64)]), (8, .c (.v (.int .i64)))])]),
    (190, [(2, [(0, .c (.v .str)), (3, .c (.o (.int .i64) 3 true))]), (6, [(0, .c (.v .str)), (3, .c (.o (.int .i64) 3 true)), (4, .c (.v (.int .i64)))]), (8, [(0, .c (.v .str)), (3, .c (.o (.int .i64) 3 true)), (4, .c (.v (.int .i64))), (5, .c (.v (.int .i64))), (6, .c (.v (.int .i64)))])]),
    (191, [(3, [(1, .box [.v .bool, .v (.sl (.int .i64)), .v (.int .i64)]), (2, .box [.v .bool, .v (.sl (.int .i64)), .v (.int .i64)]), (3, .c (.v (.sl (.int .i64)))), (4, .c (.v (.int .i64)))])]),
    (192, [(3, [(0, .c (.v .str)), (3, .c (.o (.int .u8) 5 true)), (4, .c (.v (.int .i64)))])]),
    (196, [(3, [(1, .c (.v (.sl (.int .i64)))), (5, .c (.o (.int .i64) 3 true)), (19, .c (.v (.sl (.int .i64)))), (20, .c (.v (.int .i64))), (21, .c (.v (.int .i64)))]), (7, [(1, .c (.v (.sl (.int .i64)))), (5, .c (.o (.int .i64) 3 true)), (6, .c (.v (.int .i64))), (7, .c (.v (.int .i64))), (8, .c (.v (.int .i64))), (19, .c (.v (.sl (.int .i64)))), (20, .c (.v (.int .i64))), (21, .c (.v (.int .i64))), (26, .c (.v (.sl (.int .i64)))), (27, .c (.v (.int .i64))), (28, .c (.v (.int .i64)))])]),
    (199, [(4, [(0, .c (.v (.sl (.int .i64)))), (1, .c (.v (.sl (.int .i64)))), (5, .c (.v (.int .i64)))])]),
    (200, [(3, [(5, .c (.o (.int .i64) 3 true)), (11, .c (.v (.sl (.int .i64)))), (12, .c (.v (.int .i64))), (13, .c (.v (.int .i64)))]), (8, [(5, .c (.o (.int .i64) 3 true)), (27, .c (.v (.int .i64))), (28, .c (.v (.int .i64)))]), (13, [(5, .c (.o (.int .i64) 3 true)), (27, .c (.v (.int .i64))), (28, .c (.v (.int .i64)))])]),
    (203, [(2, [(1, .c (.v (.int .i64))), (5, .c (.v .str))])]),
    (204, [(3, [(0, .c (.v (.sl (.int .i64)))), (1, .c (.v (.sl (.int .i64)))), (5, .c (.o (.int .i64) 3 true)), (6, .c (.v (.int .i64)))]), (7, [(0, .c (.v (.sl (.int .i64)))), (1, .c (.v (.sl (.int .i64)))), (5, .c (.o (.int .i64) 3 true)), (6, .c (.v (.int .i64))), (7, .c (.v (.int .i64))), (8, .c (.v (.int .i64)))])]),
    (206, [(6, [(0, .c (.v (.sl (.int .i64)))), (1, .c (.v (.sl (.int .i64)))), (5, .c (.v (.int .i64)))])]),
    (207, [(2, [(0, .c (.v (.int .u64))), (3, .c (.o (.int .i64) 3 true))])]),
    (224, [(2, [(0, .c (.v (.sl (.int .i64)))), (3, .c (.v (.int .i64)))])]),
    (225, [(4, [(0, .c (.v (.sl (.int .i64)))), (1, .c (.v (.sl (.int .i64)))), (6, .c (.o (.int .i64) 3 true)), (7, .c (.o (.int .i64) 3 true)), (8, .c (.v (.int .i64)))])]),
    (238, [(3, [(0, .c (.v (.sl (.int .i64)))), (1, .c (.v (.sl (.int .i64)))), (5, .c (.v (.int .i64))), (6, .c (.v (.int .i64)))])]),
    (239, [(4, [(0, .c (.v (.sl (.int .i64)))), (1, .c (.v (.sl (.int .i64)))), (5, .c (.o (.int .i64) 3 true)), (6, .c (.v (.int .i64))), (7, .c (.v (.int .i64)))]), (11, [(0, .c (.v (.sl (.int .i64)))), (1, .c (.v (.sl (.int .i64)))), (5, .c (.o (.int .i64) 3 true)), (6, .c (.v (.int .i64))), (7, .c (.v (.int .i64))), (8, .c (.v (.int .i64)))])]),
    (156106, [(2, [(0, .c (.v (.sl (.int .i64)))), (1, .clo 155 []), (7, .c (.v (.int .i64))), (8, .c (.v (.int .i64)))])]),
    (1018165, [(8, [(3, .box [.v (.sl (.int .i64))]), (6, .box [.o (.int .i64) 3 true]), (7, .box [.v (.sl (.int .i64))]), (8, .c (.v (.int .i64))), (10, .c (.v (.int .i64))), (11, .c (.v (.int .i64)))])])]
  eqs := [(29, [.int .i64, .int .i64])]
  rt := [(1018165, [18, 19, 3, 6, 7])]
  rng := [(165, [(18, 1018165)])]
  back := [(166, 208, 111)]
theorem tabs_ok : tabs.ok Tryz.prog = true := by kernel_rfl
noncomputable def trimR (x : ByteArray × ByteArray × Unit) : Option ((ByteArray × Unit) × (Unit × Unit × Unit)) := match x.2.1.data.toList with
  | [c] => bif Nat.blt c.toNat 128 && Nat.ble x.1.size 9223372036854775807 then some ((⟨(Lib.trimRightB x.1.data.toList c).toArray⟩, ()), ((), (), ())) else none
  | _ => none
noncomputable def atoiR (x : ByteArray × Unit) : Option ((Int × Bool × Unit) × (Unit × Unit)) := match Lib.atoi x.1.data.toList with
  | some n => bif Nat.ble x.1.size 18 then some ((n, true, ()), ((), ())) else none
  | none => none
noncomputable def repeatR (x : ByteArray × Int × Unit) : Option ((ByteArray × Unit) × (Unit × Unit × Unit)) := bif decide (0 ≤ x.2.1) && Nat.ble x.2.1.toNat 9223372036854775807 && Nat.ble (x.1.size * x.2.1.toNat) 140737488355328 then some ((⟨(Lib.repeatL x.1.data.toList x.2.1.toNat).toArray⟩, ()), ((), (), ())) else none
noncomputable def cutR (x : ByteArray × ByteArray × Unit) : Option ((ByteArray × ByteArray × Bool × Unit) × (Unit × Unit × Unit)) := bif Nat.ble (x.1.size + 1) 4294967281 then some ((⟨(Lib.cut x.1.data.toList x.2.1.data.toList).1.toArray⟩, ⟨(Lib.cut x.1.data.toList x.2.1.data.toList).2.1.toArray⟩, (Lib.cut x.1.data.toList x.2.1.data.toList).2.2, ()), ((), (), ())) else none
noncomputable def extR : (f : Nat) → Option ((specOf tabs.spec f).In → Option (specOf tabs.spec f).Out) := fun f => match f with
  | 129 => some textR
  | 43 => some cutR
  | 90 => some repeatR
  | 141 => some atoiR
  | 130 => some trimR
  | _ => none
/-- the variable that holds strconv's powers of ten, and its cells -/
def powG : Nat := 3
def powCells : Array Value := (Lib.pow10Tab.map fun z => Value.int .u64 z).toArray
/-- a variable that holds some number -/
def maxG : Nat := 0
def objsR : Nat → Option (Array Value → Prop) := fun g => if g = powG then some (fun cs => cs = powCells) else if g = maxG then some (fun cs => ∃ m, cs[0]? = some (.int .i64 m)) else none
noncomputable def cx : Go.Rf.Cx := tabs.cx Tryz.prog extR (fun _ => none) objsR
theorem good : Go.Rf.Good cx := Go.Rf.Tabs.good tabs_ok backs_ok
end Go.Proofs.YtiojgdjpigcgaaaGreatDoor.R
end

section
/-! Rf: the functions, and what each answers. -/
set_option autoImplicit false
set_option linter.unusedVariables false
namespace Go.Proofs.YtiojgdjpigcgaaaGreatDoor.R
open Go.Rf
/-! loop.example/jetton/laws.FnExactKeyGet -/
noncomputable def F4 (k : Nat) (a0 : ByteArray) (a1 : Bool) : Option ((Bool × Unit) × (Unit × Unit × Unit)) := callF cx k 4 (a0, a1, ())
/-! loop.example/jetton/laws.FnExactKeyPut -/
noncomputable def F6 (k : Nat) (a0_0 : Int) (a0_1 : Bool) (a0_2 : Bool) (a0_3 : List Int) (a0_4 : Int) (a0_5 : Int) (a0_6 : Int) (a0_7 : Int) (a0_8 : ByteArray) (a1 : Bool) : Option ((Bool × Unit) × ((Unit × Unit × Unit × Unit × Unit × Unit × Unit × Unit × Unit × Unit) × Unit × Unit)) := callF cx k 6 ((a0_0, a0_1, a0_2, a0_3, a0_4, a0_5, a0_6, a0_7, a0_8, ()), a1, ())
/-! loop.example/jetton/impl.KeyPut -/
noncomputable def F13 (k : Nat) (a0_0 : Int) (a0_1 : Bool) (a0_2 : Bool) (a0_3 : List Int) (a0_4 : Int) (a0_5 : Int) (a0_6 : Int) (a0_7 : Int) (a0_8 : ByteArray) (a1 : Bool) : Option ((ByteArray × Unit) × ((Unit × Unit × Unit × Unit × Unit × Unit × Unit × Unit × Unit × Unit) × Unit × Unit)) := callF cx k 13 ((a0_0, a0_1, a0_2, a0_3, a0_4, a0_5, a0_6, a0_7, a0_8, ()), a1, ())
/-! loop.example/jetton/spec.KeyGet -/
noncomputable def F14 (k : Nat) (a0 : ByteArray) (a1 : Bool) : Option (((Int × Bool × Bool × (List Int) × Int × Int × Int × Int × ByteArray × Unit) × Int × Bool × Unit) × (Unit × Unit × Unit)) := callF cx k 14 (a0, a1, ())
/-! loop.example/jetton/impl.KeyGet -/
noncomputable def F15 (k : Nat) (a0 : ByteArray) (a1 : Bool) : Option (((Int × Bool × Bool × (List Int) × Int × Int × Int × Int × ByteArray × Unit) × Int × Bool × Unit) × (Unit × Unit × Unit)) := callF cx k 15 (a0, a1, ())
noncomputable def F15c4 (k : Nat) (x0 : ByteArray) (x1 : Bool) (x4_0 : Int) (x4_1 : Bool) (x4_2 : Bool) (x4_3 : List Int) (x4_4 : Int) (x4_5 : Int) (x4_6 : Int) (x4_7 : Int) (x4_8 : ByteArray) (x7 : List Int) : Option (((Int × Bool × Bool × (List Int) × Int × Int × Int × Int × ByteArray × Unit) × Int × Bool × Unit) × (Unit × Unit × Unit)) := cutF cx 15 4 Tryz.f15 k (x0, x1, (x4_0, x4_1, x4_2, x4_3, x4_4, x4_5, x4_6, x4_7, x4_8, ()), x7, ())
noncomputable def F15c18 (k : Nat) (x0 : ByteArray) (x1 : Bool) (x4_0 : Int) (x4_1 : Bool) (x4_2 : Bool) (x4_3 : List Int) (x4_4 : Int) (x4_5 : Int) (x4_6 : Int) (x4_7 : Int) (x4_8 : ByteArray) (x8_0 : Int) (x8_1 : Bool) (x8_2 : Bool) (x8_3 : List Int) (x8_4 : Int) (x8_5 : Int) (x8_6 : Int) (x8_7 : Int) (x8_8 : ByteArray) : Option (((Int × Bool × Bool × (List Int) × Int × Int × Int × Int × ByteArray × Unit) × Int × Bool × Unit) × (Unit × Unit × Unit)) := cutF cx 15 18 Tryz.f15 k (x0, x1, (x4_0, x4_1, x4_2, x4_3, x4_4, x4_5, x4_6, x4_7, x4_8, ()), (x8_0, x8_1, x8_2, x8_3, x8_4, x8_5, x8_6, x8_7, x8_8, ()), ())
/-! loop.example/jetton/laws.eqValue -/
noncomputable def F16 (k : Nat) (a0_0 : Int) (a0_1 : Bool) (a0_2 : Bool) (a0_3 : List Int) (a0_4 : Int) (a0_5 : Int) (a0_6 : Int) (a0_7 : Int) (a0_8 : ByteArray) (a1_0 : Int) (a1_1 : Bool) (a1_2 : Bool) (a1_3 : List Int) (a1_4 : Int) (a1_5 : Int) (a1_6 : Int) (a1_7 : Int) (a1_8 : ByteArray) : Option ((Bool × Unit) × ((Unit × Unit × Unit × Unit × Unit × Unit × Unit × Unit × Unit × Unit) × (Unit × Unit × Unit × Unit × Unit × Unit × Unit × Unit × Unit × Unit) × Unit)) := callF cx k 16 ((a0_0, a0_1, a0_2, a0_3, a0_4, a0_5, a0_6, a0_7, a0_8, ()), (a1_0, a1_1, a1_2, a1_3, a1_4, a1_5, a1_6, a1_7, a1_8, ()), ())
/-! loop.example/jetton/laws.markValue -/
noncomputable def F17 (k : Nat) (a0_0 : Int) (a0_1 : Bool) (a0_2 : Bool) (a0_3 : List Int) (a0_4 : Int) (a0_5 : Int) (a0_6 : Int) (a0_7 : Int) (a0_8 : ByteArray) (a1 : Int) : Option ((Int × Unit) × ((Unit × Unit × Unit × (List Int) × Unit × Unit × Unit × Unit × Unit × Unit) × Unit × Unit)) := callF cx k 17 ((a0_0, a0_1, a0_2, a0_3, a0_4, a0_5, a0_6, a0_7, a0_8, ()), a1, ())
/-! loop.example/jetton/laws.heldValue -/
noncomputable def F18 (k : Nat) (a0_0 : Int) (a0_1 : Bool) (a0_2 : Bool) (a0_3 : List Int) (a0_4 : Int) (a0_5 : Int) (a0_6 : Int) (a0_7 : Int) (a0_8 : ByteArray) (a1 : Int) : Option ((Int × Unit) × ((Unit × Unit × Unit × Unit × Unit × Unit × Unit × Unit × Unit × Unit) × Unit × Unit)) := callF cx k 18 ((a0_0, a0_1, a0_2, a0_3, a0_4, a0_5, a0_6, a0_7, a0_8, ()), a1, ())
/-! loop.example/jetton/laws.szValue -/
noncomputable def F23 (k : Nat) (a0_0 : Int) (a0_1 : Bool) (a0_2 : Bool) (a0_3 : List Int) (a0_4 : Int) (a0_5 : Int) (a0_6 : Int) (a0_7 : Int) (a0_8 : ByteArray) (a1 : Int) : Option ((Int × Unit) × ((Unit × Unit × Unit × Unit × Unit × Unit × Unit × Unit × Unit × Unit) × Unit × Unit)) := callF cx k 23 ((a0_0, a0_1, a0_2, a0_3, a0_4, a0_5, a0_6, a0_7, a0_8, ()), a1, ())
/-! loop.example/jetton/spec.KeyPut -/
noncomputable def F24 (k : Nat) (a0_0 : Int) (a0_1 : Bool) (a0_2 : Bool) (a0_3 : List Int) (a0_4 : Int) (a0_5 : Int) (a0_6 : Int) (a0_7 : Int) (a0_8 : ByteArray) (a1 : Bool) : Option ((ByteArray × Unit) × ((Unit × Unit × Unit × Unit × Unit × Unit × Unit × Unit × Unit × Unit) × Unit × Unit)) := callF cx k 24 ((a0_0, a0_1, a0_2, a0_3, a0_4, a0_5, a0_6, a0_7, a0_8, ()), a1, ())
/-! loop.example/jetton/laws.toValue -/
noncomputable def F25 (k : Nat) (a0_0 : Int) (a0_1 : Bool) (a0_2 : Bool) (a0_3 : List Int) (a0_4 : Int) (a0_5 : Int) (a0_6 : Int) (a0_7 : Int) (a0_8 : ByteArray) : Option (((Int × Bool × Bool × (List Int) × Int × Int × Int × Int × ByteArray × Unit) × Unit) × ((Unit × Unit × Unit × Unit × Unit × Unit × Unit × Unit × Unit × Unit) × Unit)) := callF cx k 25 ((a0_0, a0_1, a0_2, a0_3, a0_4, a0_5, a0_6, a0_7, a0_8, ()), ())
/-! loop.example/jetton/impl.ValueOk -/
noncomputable def F33 (k : Nat) (a0_0 : Int) (a0_1 : Bool) (a0_2 : Bool) (a0_3 : List Int) (a0_4 : Int) (a0_5 : Int) (a0_6 : Int) (a0_7 : Int) (a0_8 : ByteArray) : Option ((Bool × Unit) × ((Unit × Unit × Unit × Unit × Unit × Unit × Unit × Unit × Unit × Unit) × Unit)) := callF cx k 33 ((a0_0, a0_1, a0_2, a0_3, a0_4, a0_5, a0_6, a0_7, a0_8, ()), ())
noncomputable def F33c21 (k : Nat) (x3_0 : Int) (x3_1 : Bool) (x3_2 : Bool) (x3_3 : List Int) (x3_4 : Int) (x3_5 : Int) (x3_6 : Int) (x3_7 : Int) (x3_8 : ByteArray) (x4 : Bool) : Option ((Bool × Unit) × ((Unit × Unit × Unit × Unit × Unit × Unit × Unit × Unit × Unit × Unit) × Unit)) := cutF cx 33 21 Tryz.f33 k ((x3_0, x3_1, x3_2, x3_3, x3_4, x3_5, x3_6, x3_7, x3_8, ()), x4, ())
noncomputable def F33c17 (k : Nat) (x1_0 : Int) (x1_1 : Bool) (x1_2 : Bool) (x1_3 : List Int) (x1_4 : Int) (x1_5 : Int) (x1_6 : Int) (x1_7 : Int) (x1_8 : ByteArray) (x3_0 : Int) (x3_1 : Bool) (x3_2 : Bool) (x3_3 : List Int) (x3_4 : Int) (x3_5 : Int) (x3_6 : Int) (x3_7 : Int) (x3_8 : ByteArray) (x4 : Bool) (x43 : Int) (x44 : Int) : Option ((Bool × Unit) × ((Unit × Unit × Unit × Unit × Unit × Unit × Unit × Unit × Unit × Unit) × Unit)) := cutF cx 33 17 Tryz.f33 k ((x1_0, x1_1, x1_2, x1_3, x1_4, x1_5, x1_6, x1_7, x1_8, ()), (x3_0, x3_1, x3_2, x3_3, x3_4, x3_5, x3_6, x3_7, x3_8, ()), x4, x43, x44, ())
/-! loop.example/jetton/spec.l4Ok -/
noncomputable def F35 (k : Nat) (a0_0 : Int) (a0_1 : Bool) (a0_2 : Bool) (a0_3 : List Int) (a0_4 : Int) (a0_5 : Int) (a0_6 : Int) (a0_7 : Int) (a0_8 : ByteArray) : Option ((Bool × Unit) × ((Unit × Unit × Unit × Unit × Unit × Unit × Unit × Unit × Unit × Unit) × Unit)) := callF cx k 35 ((a0_0, a0_1, a0_2, a0_3, a0_4, a0_5, a0_6, a0_7, a0_8, ()), ())
/-! (loop.example/jetton/impl.Value).key -/
noncomputable def F37 (k : Nat) (a0_0 : Int) (a0_1 : Bool) (a0_2 : Bool) (a0_3 : List Int) (a0_4 : Int) (a0_5 : Int) (a0_6 : Int) (a0_7 : Int) (a0_8 : ByteArray) (a1 : Bool) : Option (((List Int) × Unit) × ((Unit × Unit × Unit × Unit × Unit × Unit × Unit × Unit × Unit × Unit) × Unit × Unit)) := callF cx k 37 ((a0_0, a0_1, a0_2, a0_3, a0_4, a0_5, a0_6, a0_7, a0_8, ()), a1, ())
noncomputable def F37c13 (k : Nat) (x1 : Bool) (x5 : List Int) : Option (((List Int) × Unit) × ((Unit × Unit × Unit × Unit × Unit × Unit × Unit × Unit × Unit × Unit) × Unit × Unit)) := cutF cx 37 13 Tryz.f37 k (x1, x5, ())
/-! loop.example/jetton/spec.l5Get -/
noncomputable def F38 (k : Nat) (a0 : ByteArray) (a1 : Bool) : Option (((Int × Bool × Bool × (List Int) × Int × Int × Int × Int × ByteArray × Unit) × Int × Unit) × (Unit × Unit × Unit)) := callF cx k 38 (a0, a1, ())
noncomputable def F38c5 (k : Nat) (x0 : ByteArray) (x4_0 : Int) (x4_1 : Bool) (x4_2 : Bool) (x4_3 : List Int) (x4_4 : Int) (x4_5 : Int) (x4_6 : Int) (x4_7 : Int) (x4_8 : ByteArray) : Option (((Int × Bool × Bool × (List Int) × Int × Int × Int × Int × ByteArray × Unit) × Int × Unit) × (Unit × Unit × Unit)) := cutF cx 38 5 Tryz.f38 k (x0, (x4_0, x4_1, x4_2, x4_3, x4_4, x4_5, x4_6, x4_7, x4_8, ()), ())
/-! loop.example/jetton/impl.turned -/
noncomputable def F39 (k : Nat) (a0 : List Int) : Option (((List Int) × Unit) × (Unit × Unit)) := callF cx k 39 (a0, ())
noncomputable def F39c3 (k : Nat) (x3 : List Int) (x9 : List Int) (x10 : Int) (x11 : Int) : Option (((List Int) × Unit) × (Unit × Unit)) := cutF cx 39 3 Tryz.f39 k (x3, x9, x10, x11, ())
/-! loop.example/jetton/impl.in -/
noncomputable def F40 (k : Nat) (a0 : Int) (a1 : Int) (a2 : Int) : Option ((Bool × Unit) × (Unit × Unit × Unit × Unit)) := callF cx k 40 (a0, a1, a2, ())
/-! loop.example/jetton/impl.numOf -/
noncomputable def F41 (k : Nat) (a0 : List Int) : Option (((Bool × (List Int) × Int × Unit) × Unit) × (Unit × Unit)) := callF cx k 41 (a0, ())
noncomputable def F41c6 (k : Nat) (x0 : List Int) (x2_0 : Bool) (x2_1 : List Int) (x2_2 : Int) (x3 : List Int) : Option (((Bool × (List Int) × Int × Unit) × Unit) × (Unit × Unit)) := cutF cx 41 6 Tryz.f41 k (x0, (x2_0, x2_1, x2_2, ()), x3, ())
noncomputable def F41c9 (k : Nat) (x0 : List Int) (x2_0 : Bool) (x2_1 : List Int) (x2_2 : Int) (x4 : Int) (x5 : ByteArray) (x40 : List Int) (x41 : Int) (x42 : Int) : Option (((Bool × (List Int) × Int × Unit) × Unit) × (Unit × Unit)) := cutF cx 41 9 Tryz.f41 k (x0, (x2_0, x2_1, x2_2, ()), x4, x5, x40, x41, x42, ())
/-! loop.example/jetton/impl.fromThree -/
noncomputable def F42 (k : Nat) (a0 : List Int) : Option ((Int × Unit) × (Unit × Unit)) := callF cx k 42 (a0, ())
/-! strings.Cut -/
noncomputable def F43 (k : Nat) (a0 : ByteArray) (a1 : ByteArray) : Option ((ByteArray × ByteArray × Bool × Unit) × (Unit × Unit × Unit)) := callF cx k 43 (a0, a1, ())
/-! strings.HasPrefix -/
noncomputable def F44 (k : Nat) (a0 : ByteArray) (a1 : ByteArray) : Option ((Bool × Unit) × (Unit × Unit × Unit)) := callF cx k 44 (a0, a1, ())
/-! loop.example/jetton/laws.eqDec -/
noncomputable def F45 (k : Nat) (a0_0 : Bool) (a0_1 : List Int) (a0_2 : Int) (a1_0 : Bool) (a1_1 : List Int) (a1_2 : Int) : Option ((Bool × Unit) × ((Unit × Unit × Unit × Unit) × (Unit × Unit × Unit × Unit) × Unit)) := callF cx k 45 ((a0_0, a0_1, a0_2, ()), (a1_0, a1_1, a1_2, ()), ())
/-! loop.example/jetton/laws.eqSpan -/
noncomputable def F46 (k : Nat) (a0_0 : Int) (a0_1 : Int) (a1_0 : Int) (a1_1 : Int) : Option ((Bool × Unit) × ((Unit × Unit × Unit) × (Unit × Unit × Unit) × Unit)) := callF cx k 46 ((a0_0, a0_1, ()), (a1_0, a1_1, ()), ())
/-! loop.example/jetton/laws.markDec -/
noncomputable def F47 (k : Nat) (a0_0 : Bool) (a0_1 : List Int) (a0_2 : Int) (a1 : Int) : Option ((Int × Unit) × ((Unit × (List Int) × Unit × Unit) × Unit × Unit)) := callF cx k 47 ((a0_0, a0_1, a0_2, ()), a1, ())
/-! loop.example/jetton/laws.heldDec -/
noncomputable def F48 (k : Nat) (a0_0 : Bool) (a0_1 : List Int) (a0_2 : Int) (a1 : Int) : Option ((Int × Unit) × ((Unit × Unit × Unit × Unit) × Unit × Unit)) := callF cx k 48 ((a0_0, a0_1, a0_2, ()), a1, ())
/-! loop.example/jetton/laws.szDec -/
noncomputable def F65 (k : Nat) (a0_0 : Bool) (a0_1 : List Int) (a0_2 : Int) (a1 : Int) : Option ((Int × Unit) × ((Unit × Unit × Unit × Unit) × Unit × Unit)) := callF cx k 65 ((a0_0, a0_1, a0_2, ()), a1, ())
/-! loop.example/jetton/spec.l5Put -/
noncomputable def F66 (k : Nat) (a0_0 : Int) (a0_1 : Bool) (a0_2 : Bool) (a0_3 : List Int) (a0_4 : Int) (a0_5 : Int) (a0_6 : Int) (a0_7 : Int) (a0_8 : ByteArray) (a1 : Bool) : Option ((ByteArray × Unit) × ((Unit × Unit × Unit × Unit × Unit × Unit × Unit × Unit × Unit × Unit) × Unit × Unit)) := callF cx k 66 ((a0_0, a0_1, a0_2, a0_3, a0_4, a0_5, a0_6, a0_7, a0_8, ()), a1, ())
/-! loop.example/jetton/laws.toDec -/
noncomputable def F67 (k : Nat) (a0_0 : Bool) (a0_1 : List Int) (a0_2 : Int) : Option (((Bool × (List Int) × Int × Unit) × Unit) × ((Unit × Unit × Unit × Unit) × Unit)) := callF cx k 67 ((a0_0, a0_1, a0_2, ()), ())
/-! loop.example/jetton/laws.toSpan -/
noncomputable def F68 (k : Nat) (a0_0 : Int) (a0_1 : Int) : Option (((Int × Int × Unit) × Unit) × ((Unit × Unit × Unit) × Unit)) := callF cx k 68 ((a0_0, a0_1, ()), ())
/-! loop.example/jetton/impl.DecOk -/
noncomputable def F71 (k : Nat) (a0_0 : Bool) (a0_1 : List Int) (a0_2 : Int) : Option ((Bool × Unit) × ((Unit × Unit × Unit × Unit) × Unit)) := callF cx k 71 ((a0_0, a0_1, a0_2, ()), ())
/-! loop.example/jetton/impl.isDay -/
noncomputable def F72 (k : Nat) (a0 : Int) : Option ((Bool × Unit) × (Unit × Unit)) := callF cx k 72 (a0, ())
/-! loop.example/jetton/impl.SpanOk -/
noncomputable def F73 (k : Nat) (a0_0 : Int) (a0_1 : Int) : Option ((Bool × Unit) × ((Unit × Unit × Unit) × Unit)) := callF cx k 73 ((a0_0, a0_1, ()), ())
/-! (loop.example/jetton/impl.Dec).zero -/
noncomputable def F74 (k : Nat) (a0_0 : Bool) (a0_1 : List Int) (a0_2 : Int) : Option ((Bool × Unit) × ((Unit × Unit × Unit × Unit) × Unit)) := callF cx k 74 ((a0_0, a0_1, a0_2, ()), ())
/-! loop.example/jetton/spec.l1In -/
noncomputable def F77 (k : Nat) (a0 : Int) (a1 : Int) (a2 : Int) : Option ((Bool × Unit) × (Unit × Unit × Unit × Unit)) := callF cx k 77 (a0, a1, a2, ())
/-! loop.example/jetton/spec.l4Bare -/
noncomputable def F78 (k : Nat) (a0_0 : Int) (a0_1 : Bool) (a0_2 : Bool) (a0_3 : List Int) (a0_4 : Int) (a0_5 : Int) (a0_6 : Int) (a0_7 : Int) (a0_8 : ByteArray) : Option ((Bool × Unit) × ((Unit × Unit × Unit × Unit × Unit × Unit × Unit × Unit × Unit × Unit) × Unit)) := callF cx k 78 ((a0_0, a0_1, a0_2, a0_3, a0_4, a0_5, a0_6, a0_7, a0_8, ()), ())
/-! loop.example/jetton/spec.l2Ok -/
noncomputable def F79 (k : Nat) (a0_0 : Bool) (a0_1 : List Int) (a0_2 : Int) : Option ((Bool × Unit) × ((Unit × Unit × Unit × Unit) × Unit)) := callF cx k 79 ((a0_0, a0_1, a0_2, ()), ())
/-! loop.example/jetton/spec.l3Is -/
noncomputable def F80 (k : Nat) (a0 : Int) : Option ((Bool × Unit) × (Unit × Unit)) := callF cx k 80 (a0, ())
/-! loop.example/jetton/spec.l3SpanOk -/
noncomputable def F81 (k : Nat) (a0_0 : Int) (a0_1 : Int) : Option ((Bool × Unit) × ((Unit × Unit × Unit) × Unit)) := callF cx k 81 ((a0_0, a0_1, ()), ())
/-! loop.example/jetton/spec.l4Text -/
noncomputable def F82 (k : Nat) (a0 : ByteArray) : Option ((Bool × Unit) × (Unit × Unit)) := callF cx k 82 (a0, ())
noncomputable def F82c2 (k : Nat) (x0 : ByteArray) (x3 : Int) : Option ((Bool × Unit) × (Unit × Unit)) := cutF cx 82 2 Tryz.f82 k (x0, x3, ())
/-! loop.example/jetton/impl.truth -/
noncomputable def F85 (k : Nat) (a0 : Bool) : Option ((Int × Unit) × (Unit × Unit)) := callF cx k 85 (a0, ())
/-! loop.example/jetton/impl.numKey -/
noncomputable def F86 (k : Nat) (a0_0 : Bool) (a0_1 : List Int) (a0_2 : Int) : Option (((List Int) × Unit) × ((Unit × Unit × Unit × Unit) × Unit)) := callF cx k 86 ((a0_0, a0_1, a0_2, ()), ())
noncomputable def F86c7 (k : Nat) (x1_0 : Bool) (x1_1 : List Int) (x1_2 : Int) (x4 : List Int) (x29 : List Int) (x30 : Int) (x31 : Int) : Option (((List Int) × Unit) × ((Unit × Unit × Unit × Unit) × Unit)) := cutF cx 86 7 Tryz.f86 k ((x1_0, x1_1, x1_2, ()), x4, x29, x30, x31, ())
/-! loop.example/jetton/impl.three -/
noncomputable def F87 (k : Nat) (a0 : Int) : Option (((List Int) × Unit) × (Unit × Unit)) := callF cx k 87 (a0, ())
/-! loop.example/jetton/spec.l5Turn -/
noncomputable def F88 (k : Nat) (a0 : ByteArray) : Option ((ByteArray × Unit) × (Unit × Unit)) := callF cx k 88 (a0, ())
noncomputable def F88c3 (k : Nat) (x0 : ByteArray) (x3 : List Int) (x4 : Int) : Option ((ByteArray × Unit) × (Unit × Unit)) := cutF cx 88 3 Tryz.f88 k (x0, x3, x4, ())
/-! loop.example/jetton/spec.l5Body2 -/
noncomputable def F89 (k : Nat) (a0 : ByteArray) : Option (((Int × Bool × Bool × (List Int) × Int × Int × Int × Int × ByteArray × Unit) × Int × Unit) × (Unit × Unit)) := callF cx k 89 (a0, ())
noncomputable def F89c24 (k : Nat) (x2_0 : Int) (x2_1 : Bool) (x2_2 : Bool) (x2_3 : List Int) (x2_4 : Int) (x2_5 : Int) (x2_6 : Int) (x2_7 : Int) (x2_8 : ByteArray) (x4_0 : Int) (x4_1 : Bool) (x4_2 : Bool) (x4_3 : List Int) (x4_4 : Int) (x4_5 : Int) (x4_6 : Int) (x4_7 : Int) (x4_8 : ByteArray) : Option (((Int × Bool × Bool × (List Int) × Int × Int × Int × Int × ByteArray × Unit) × Int × Unit) × (Unit × Unit)) := cutF cx 89 24 Tryz.f89 k ((x2_0, x2_1, x2_2, x2_3, x2_4, x2_5, x2_6, x2_7, x2_8, ()), (x4_0, x4_1, x4_2, x4_3, x4_4, x4_5, x4_6, x4_7, x4_8, ()), ())
/-! strings.Repeat -/
noncomputable def F90 (k : Nat) (a0 : ByteArray) (a1 : Int) : Option ((ByteArray × Unit) × (Unit × Unit × Unit)) := callF cx k 90 (a0, a1, ())
/-! loop.example/jetton/impl.big -/
noncomputable def F91 (k : Nat) (a0 : Bool) (a1 : List Int) : Option (((Bool × (List Int) × Unit) × Bool × Unit) × (Unit × Unit × Unit)) := callF cx k 91 (a0, a1, ())
/-! loop.example/jetton/impl.readLimbs -/
noncomputable def F92 (k : Nat) (a0 : ByteArray) : Option (((List Int) × Unit) × (Unit × Unit)) := callF cx k 92 (a0, ())
noncomputable def F92c3 (k : Nat) (x0 : ByteArray) (x3 : List Int) (x4 : Int) : Option (((List Int) × Unit) × (Unit × Unit)) := cutF cx 92 3 Tryz.f92 k (x0, x3, x4, ())
/-! internal/stringslite.HasPrefix -/
noncomputable def F94 (k : Nat) (a0 : ByteArray) (a1 : ByteArray) : Option ((Bool × Unit) × (Unit × Unit × Unit)) := callF cx k 94 (a0, a1, ())
/-! loop.example/jetton/laws.eqBig -/
noncomputable def F95 (k : Nat) (a0_0 : Bool) (a0_1 : List Int) (a1_0 : Bool) (a1_1 : List Int) : Option ((Bool × Unit) × ((Unit × Unit × Unit) × (Unit × Unit × Unit) × Unit)) := callF cx k 95 ((a0_0, a0_1, ()), (a1_0, a1_1, ()), ())
/-! loop.example/jetton/laws.markBig -/
noncomputable def F96 (k : Nat) (a0_0 : Bool) (a0_1 : List Int) (a1 : Int) : Option ((Int × Unit) × ((Unit × (List Int) × Unit) × Unit × Unit)) := callF cx k 96 ((a0_0, a0_1, ()), a1, ())
/-! loop.example/jetton/laws.heldBig -/
noncomputable def F97 (k : Nat) (a0_0 : Bool) (a0_1 : List Int) (a1 : Int) : Option ((Int × Unit) × ((Unit × Unit × Unit) × Unit × Unit)) := callF cx k 97 ((a0_0, a0_1, ()), a1, ())
/-! loop.example/jetton/laws.szBig -/
noncomputable def F107 (k : Nat) (a0_0 : Bool) (a0_1 : List Int) (a1 : Int) : Option ((Int × Unit) × ((Unit × Unit × Unit) × Unit × Unit)) := callF cx k 107 ((a0_0, a0_1, ()), a1, ())
/-! loop.example/jetton/spec.l5Body -/
noncomputable def F108 (k : Nat) (a0_0 : Int) (a0_1 : Bool) (a0_2 : Bool) (a0_3 : List Int) (a0_4 : Int) (a0_5 : Int) (a0_6 : Int) (a0_7 : Int) (a0_8 : ByteArray) : Option ((ByteArray × Unit) × ((Unit × Unit × Unit × Unit × Unit × Unit × Unit × Unit × Unit × Unit) × Unit)) := callF cx k 108 ((a0_0, a0_1, a0_2, a0_3, a0_4, a0_5, a0_6, a0_7, a0_8, ()), ())
/-! loop.example/jetton/laws.toBig -/
noncomputable def F109 (k : Nat) (a0_0 : Bool) (a0_1 : List Int) : Option (((Bool × (List Int) × Unit) × Unit) × ((Unit × Unit × Unit) × Unit)) := callF cx k 109 ((a0_0, a0_1, ()), ())
/-! loop.example/jetton/spec.l4Num -/
noncomputable def F111 (k : Nat) (a0_0 : Bool) (a0_1 : List Int) (a0_2 : Int) : Option (((Int × Bool × Bool × (List Int) × Int × Int × Int × Int × ByteArray × Unit) × Unit) × ((Unit × Unit × Unit × Unit) × Unit)) := callF cx k 111 ((a0_0, a0_1, a0_2, ()), ())
/-! loop.example/jetton/impl.BigOk -/
noncomputable def F116 (k : Nat) (a0_0 : Bool) (a0_1 : List Int) : Option ((Bool × Unit) × ((Unit × Unit × Unit) × Unit)) := callF cx k 116 ((a0_0, a0_1, ()), ())
/-! (loop.example/jetton/impl.limbs).digits -/
noncomputable def F117 (k : Nat) (a0 : List Int) : Option ((Int × Unit) × (Unit × Unit)) := callF cx k 117 (a0, ())
/-! loop.example/jetton/spec.l4Zero -/
noncomputable def F122 (k : Nat) (a0_0 : Bool) (a0_1 : List Int) (a0_2 : Int) : Option ((Bool × Unit) × ((Unit × Unit × Unit × Unit) × Unit)) := callF cx k 122 ((a0_0, a0_1, a0_2, ()), ())
/-! loop.example/jetton/spec.l1Ok -/
noncomputable def F123 (k : Nat) (a0_0 : Bool) (a0_1 : List Int) : Option ((Bool × Unit) × ((Unit × Unit × Unit) × Unit)) := callF cx k 123 ((a0_0, a0_1, ()), ())
noncomputable def F123c4 (k : Nat) (x1_0 : Bool) (x1_1 : List Int) (x3 : Int) : Option ((Bool × Unit) × ((Unit × Unit × Unit) × Unit)) := cutF cx 123 4 Tryz.f123 k ((x1_0, x1_1, ()), x3, ())
/-! loop.example/jetton/spec.l1Long -/
noncomputable def F124 (k : Nat) (a0 : List Int) : Option ((Int × Unit) × (Unit × Unit)) := callF cx k 124 (a0, ())
/-! loop.example/jetton/spec.l4Bit -/
noncomputable def F125 (k : Nat) (a0 : Bool) : Option ((Int × Unit) × (Unit × Unit)) := callF cx k 125 (a0, ())
/-! loop.example/jetton/impl.DecTrim -/
noncomputable def F128 (k : Nat) (a0_0 : Bool) (a0_1 : List Int) (a0_2 : Int) : Option (((Bool × (List Int) × Int × Unit) × Unit) × ((Unit × Unit × Unit × Unit) × Unit)) := callF cx k 128 ((a0_0, a0_1, a0_2, ()), ())
noncomputable def F128c4 (k : Nat) (x1_0 : Bool) (x1_1 : List Int) (x1_2 : Int) (x2_0 : Bool) (x2_1 : List Int) (x2_2 : Int) (x3 : List Int) (x4 : Int) : Option (((Bool × (List Int) × Int × Unit) × Unit) × ((Unit × Unit × Unit × Unit) × Unit)) := cutF cx 128 4 Tryz.f128 k ((x1_0, x1_1, x1_2, ()), (x2_0, x2_1, x2_2, ()), x3, x4, ())
/-! (loop.example/jetton/impl.limbs).text -/
noncomputable def F129 (k : Nat) (a0 : List Int) : Option ((ByteArray × Unit) × (Unit × Unit)) := callF cx k 129 (a0, ())
/-! strings.TrimRight -/
noncomputable def F130 (k : Nat) (a0 : ByteArray) (a1 : ByteArray) : Option ((ByteArray × Unit) × (Unit × Unit × Unit)) := callF cx k 130 (a0, a1, ())
/-! loop.example/jetton/spec.l5NumGet -/
noncomputable def F131 (k : Nat) (a0 : ByteArray) (a1 : Int) : Option (((Bool × (List Int) × Int × Unit) × Int × Unit) × (Unit × Unit × Unit)) := callF cx k 131 (a0, a1, ())
noncomputable def F131c11 (k : Nat) (x1 : Int) (x4_0 : Bool) (x4_1 : List Int) (x4_2 : Int) (x6 : Bool) (x7 : ByteArray) : Option (((Bool × (List Int) × Int × Unit) × Int × Unit) × (Unit × Unit × Unit)) := cutF cx 131 11 Tryz.f131 k (x1, (x4_0, x4_1, x4_2, ()), x6, x7, ())
/-! loop.example/jetton/spec.l5Num3 -/
noncomputable def F132 (k : Nat) (a0 : ByteArray) (a1 : Int) : Option ((Int × Unit) × (Unit × Unit × Unit)) := callF cx k 132 (a0, a1, ())
/-! loop.example/jetton/spec.l5End -/
noncomputable def F133 (k : Nat) (a0 : ByteArray) (a1 : Int) : Option ((Int × Unit) × (Unit × Unit × Unit)) := callF cx k 133 (a0, a1, ())
noncomputable def F133c2 (k : Nat) (x0 : ByteArray) (x5 : Int) : Option ((Int × Unit) × (Unit × Unit × Unit)) := cutF cx 133 2 Tryz.f133 k (x0, x5, ())
/-! (loop.example/jetton/impl.limbs).trim -/
noncomputable def F139 (k : Nat) (a0 : List Int) : Option (((List Int) × Unit) × (Unit × Unit)) := callF cx k 139 (a0, ())
noncomputable def F139c1 (k : Nat) (x0 : List Int) : Option (((List Int) × Unit) × (Unit × Unit)) := cutF cx 139 1 Tryz.f139 k (x0, ())
/-! loop.example/jetton/impl.clone[int] -/
noncomputable def F140 (k : Nat) (a0 : List Int) : Option (((List Int) × Unit) × (Unit × Unit)) := callF cx k 140 (a0, ())
/-! strconv.Atoi -/
noncomputable def F141 (k : Nat) (a0 : ByteArray) : Option ((Int × Bool × Unit) × (Unit × Unit)) := callF cx k 141 (a0, ())
/-! loop.example/jetton/laws.eqIntS -/
noncomputable def F143 (k : Nat) (a0 : List Int) (a1 : List Int) : Option ((Bool × Unit) × (Unit × Unit × Unit)) := callF cx k 143 (a0, a1, ())
noncomputable def F143c4 (k : Nat) (x0 : List Int) (x1 : List Int) (x5 : Int) : Option ((Bool × Unit) × (Unit × Unit × Unit)) := cutF cx 143 4 Tryz.f143 k (x0, x1, x5, ())
/-! loop.example/jetton/laws.markIntS -/
noncomputable def F144 (k : Nat) (a0 : List Int) (a1 : Int) : Option ((Int × Unit) × ((List Int) × Unit × Unit)) := callF cx k 144 (a0, a1, ())
noncomputable def F144c2 (k : Nat) (x0 : List Int) (x1 : Int) (x5 : Int) : Option ((Int × Unit) × ((List Int) × Unit × Unit)) := cutF cx 144 2 Tryz.f144 k (x0, x1, x5, ())
/-! loop.example/jetton/laws.heldIntS -/
noncomputable def F145 (k : Nat) (a0 : List Int) (a1 : Int) : Option ((Int × Unit) × (Unit × Unit × Unit)) := callF cx k 145 (a0, a1, ())
noncomputable def F145c2 (k : Nat) (x0 : List Int) (x1 : Int) (x5 : Int) : Option ((Int × Unit) × (Unit × Unit × Unit)) := cutF cx 145 2 Tryz.f145 k (x0, x1, x5, ())
/-! loop.example/jetton/laws.szIntS -/
noncomputable def F149 (k : Nat) (a0 : List Int) (a1 : Int) : Option ((Int × Unit) × (Unit × Unit × Unit)) := callF cx k 149 (a0, a1, ())
/-! loop.example/jetton/spec.l5Num -/
noncomputable def F150 (k : Nat) (a0_0 : Bool) (a0_1 : List Int) (a0_2 : Int) : Option ((ByteArray × Unit) × ((Unit × Unit × Unit × Unit) × Unit)) := callF cx k 150 ((a0_0, a0_1, a0_2, ()), ())
noncomputable def F150c7 (k : Nat) (x1_0 : Bool) (x1_1 : List Int) (x1_2 : Int) (x4 : ByteArray) (x5 : Int) (x6 : Int) : Option ((ByteArray × Unit) × ((Unit × Unit × Unit × Unit) × Unit)) := cutF cx 150 7 Tryz.f150 k ((x1_0, x1_1, x1_2, ()), x4, x5, x6, ())
/-! loop.example/jetton/spec.l5Three -/
noncomputable def F151 (k : Nat) (a0 : Int) : Option ((ByteArray × Unit) × (Unit × Unit)) := callF cx k 151 (a0, ())
/-! loop.example/jetton/laws.toIntS -/
noncomputable def F152 (k : Nat) (a0 : List Int) : Option (((List Int) × Unit) × (Unit × Unit)) := callF cx k 152 (a0, ())
noncomputable def F152c3 (k : Nat) (x0 : List Int) (x3 : List Int) (x4 : Int) : Option (((List Int) × Unit) × (Unit × Unit)) := cutF cx 152 3 Tryz.f152 k (x0, x3, x4, ())
/-! loop.example/jetton/impl.BigOk$1 -/
noncomputable def F155 (k : Nat) (a0 : Int) : Option ((Bool × Unit) × (Unit × Unit)) := callF cx k 155 (a0, ())
/-! loop.example/jetton/spec.l1Figures -/
noncomputable def F161 (k : Nat) (a0 : List Int) : Option ((ByteArray × Unit) × (Unit × Unit)) := callF cx k 161 (a0, ())
noncomputable def F161c5 (k : Nat) (x0 : List Int) (x3 : ByteArray) (x4 : Int) : Option ((ByteArray × Unit) × (Unit × Unit)) := cutF cx 161 5 Tryz.f161 k (x0, x3, x4, ())
/-! (loop.example/jetton/impl.limbs).div -/
noncomputable def F165 (k : Nat) (a0 : List Int) (a1 : List Int) : Option (((List Int) × (List Int) × Unit) × (Unit × Unit × Unit)) := callF cx k 165 (a0, a1, ())
noncomputable def F165c15 (k : Nat) (x6_0 : List Int) (x7_0 : List Int) : Option (((List Int) × (List Int) × Unit) × (Unit × Unit × Unit)) := cutF cx 165 15 Tryz.f165 k ((x6_0, ()), (x7_0, ()), ())
/-! loop.example/jetton/spec.l5Figures -/
noncomputable def F172 (k : Nat) (a0 : ByteArray) : Option ((ByteArray × Unit) × (Unit × Unit)) := callF cx k 172 (a0, ())
noncomputable def F172c3 (k : Nat) (x0 : ByteArray) (x3 : ByteArray) (x4 : Int) : Option ((ByteArray × Unit) × (Unit × Unit)) := cutF cx 172 3 Tryz.f172 k (x0, x3, x4, ())
/-! loop.example/jetton/spec.l5DecOf -/
noncomputable def F173 (k : Nat) (a0 : Bool) (a1 : ByteArray) (a2 : Int) : Option (((Bool × (List Int) × Int × Unit) × Bool × Unit) × (Unit × Unit × Unit × Unit)) := callF cx k 173 (a0, a1, a2, ())
noncomputable def F173c4 (k : Nat) (x0 : Bool) (x1 : ByteArray) (x2 : Int) (x6_0 : Bool) (x6_1 : List Int) (x6_2 : Int) (x8 : Int) : Option (((Bool × (List Int) × Int × Unit) × Bool × Unit) × (Unit × Unit × Unit × Unit)) := cutF cx 173 4 Tryz.f173 k (x0, x1, x2, (x6_0, x6_1, x6_2, ()), x8, ())
noncomputable def F173c6 (k : Nat) (x0 : Bool) (x1 : ByteArray) (x2 : Int) (x6_0 : Bool) (x6_1 : List Int) (x6_2 : Int) (x8 : Int) : Option (((Bool × (List Int) × Int × Unit) × Bool × Unit) × (Unit × Unit × Unit × Unit)) := cutF cx 173 6 Tryz.f173 k (x0, x1, x2, (x6_0, x6_1, x6_2, ()), x8, ())
/-! slices.Clip[[]int,int] -/
noncomputable def F178 (k : Nat) (a0 : List Int) : Option (((List Int) × Unit) × (Unit × Unit)) := callF cx k 178 (a0, ())
/-! slices.Clone[[]int,int] -/
noncomputable def F179 (k : Nat) (a0 : List Int) : Option (((List Int) × Unit) × (Unit × Unit)) := callF cx k 179 (a0, ())
/-! loop.example/jetton/spec.l1FromFigures -/
noncomputable def F190 (k : Nat) (a0 : ByteArray) : Option (((List Int) × Unit) × (Unit × Unit)) := callF cx k 190 (a0, ())
noncomputable def F190c2 (k : Nat) (x0 : ByteArray) (x3 : List Int) : Option (((List Int) × Unit) × (Unit × Unit)) := cutF cx 190 2 Tryz.f190 k (x0, x3, ())
noncomputable def F190c6 (k : Nat) (x0 : ByteArray) (x3 : List Int) (x4 : Int) : Option (((List Int) × Unit) × (Unit × Unit)) := cutF cx 190 6 Tryz.f190 k (x0, x3, x4, ())
noncomputable def F190c8 (k : Nat) (x0 : ByteArray) (x3 : List Int) (x4 : Int) (x5 : Int) (x6 : Int) : Option (((List Int) × Unit) × (Unit × Unit)) := cutF cx 190 8 Tryz.f190 k (x0, x3, x4, x5, x6, ())
/-! loop.example/jetton/spec.l2Trim -/
noncomputable def F191 (k : Nat) (a0_0 : Bool) (a0_1 : List Int) (a0_2 : Int) : Option (((Bool × (List Int) × Int × Unit) × Unit) × ((Unit × Unit × Unit × Unit) × Unit)) := callF cx k 191 ((a0_0, a0_1, a0_2, ()), ())
noncomputable def F191c3 (k : Nat) (x1_0 : Bool) (x1_1 : List Int) (x1_2 : Int) (x2_0 : Bool) (x2_1 : List Int) (x2_2 : Int) (x3 : List Int) (x4 : Int) : Option (((Bool × (List Int) × Int × Unit) × Unit) × ((Unit × Unit × Unit × Unit) × Unit)) := cutF cx 191 3 Tryz.f191 k ((x1_0, x1_1, x1_2, ()), (x2_0, x2_1, x2_2, ()), x3, x4, ())
/-! loop.example/jetton/spec.l5Digits -/
noncomputable def F192 (k : Nat) (a0 : ByteArray) : Option ((ByteArray × Unit) × (Unit × Unit)) := callF cx k 192 (a0, ())
noncomputable def F192c3 (k : Nat) (x0 : ByteArray) (x3 : List Int) (x4 : Int) : Option ((ByteArray × Unit) × (Unit × Unit)) := cutF cx 192 3 Tryz.f192 k (x0, x3, x4, ())
/-! (loop.example/jetton/impl.limbs).mul -/
noncomputable def F196 (k : Nat) (a0 : List Int) (a1 : List Int) : Option (((List Int) × Unit) × (Unit × Unit × Unit)) := callF cx k 196 (a0, a1, ())
noncomputable def F196c3 (k : Nat) (x1 : List Int) (x5 : List Int) (x19 : List Int) (x20 : Int) (x21 : Int) : Option (((List Int) × Unit) × (Unit × Unit × Unit)) := cutF cx 196 3 Tryz.f196 k (x1, x5, x19, x20, x21, ())
noncomputable def F196c7 (k : Nat) (x1 : List Int) (x5 : List Int) (x6 : Int) (x7 : Int) (x8 : Int) (x19 : List Int) (x20 : Int) (x21 : Int) (x26 : List Int) (x27 : Int) (x28 : Int) : Option (((List Int) × Unit) × (Unit × Unit × Unit)) := cutF cx 196 7 Tryz.f196 k (x1, x5, x6, x7, x8, x19, x20, x21, x26, x27, x28, ())
/-! (loop.example/jetton/impl.limbs).cmp -/
noncomputable def F199 (k : Nat) (a0 : List Int) (a1 : List Int) : Option ((Int × Unit) × (Unit × Unit × Unit)) := callF cx k 199 (a0, a1, ())
noncomputable def F199c4 (k : Nat) (x0 : List Int) (x1 : List Int) (x5 : Int) : Option ((Int × Unit) × (Unit × Unit × Unit)) := cutF cx 199 4 Tryz.f199 k (x0, x1, x5, ())
/-! (loop.example/jetton/impl.limbs).sub -/
noncomputable def F200 (k : Nat) (a0 : List Int) (a1 : List Int) : Option (((List Int) × Unit) × (Unit × Unit × Unit)) := callF cx k 200 (a0, a1, ())
noncomputable def F200c3 (k : Nat) (x5 : List Int) (x11 : List Int) (x12 : Int) (x13 : Int) : Option (((List Int) × Unit) × (Unit × Unit × Unit)) := cutF cx 200 3 Tryz.f200 k (x5, x11, x12, x13, ())
noncomputable def F200c8 (k : Nat) (x5 : List Int) (x27 : Int) (x28 : Int) : Option (((List Int) × Unit) × (Unit × Unit × Unit)) := cutF cx 200 8 Tryz.f200 k (x5, x27, x28, ())
noncomputable def F200c13 (k : Nat) (x5 : List Int) (x27 : Int) (x28 : Int) : Option (((List Int) × Unit) × (Unit × Unit × Unit)) := cutF cx 200 13 Tryz.f200 k (x5, x27, x28, ())
/-! loop.example/jetton/spec.l1Dec -/
noncomputable def F202 (k : Nat) (a0 : Int) : Option ((ByteArray × Unit) × (Unit × Unit)) := callF cx k 202 (a0, ())
/-! loop.example/jetton/spec.l1Wide -/
noncomputable def F203 (k : Nat) (a0 : Int) (a1 : Int) : Option ((ByteArray × Unit) × (Unit × Unit × Unit)) := callF cx k 203 (a0, a1, ())
noncomputable def F203c2 (k : Nat) (x1 : Int) (x5 : ByteArray) : Option ((ByteArray × Unit) × (Unit × Unit × Unit)) := cutF cx 203 2 Tryz.f203 k (x1, x5, ())
/-! loop.example/jetton/spec.l1MulAbs -/
noncomputable def F204 (k : Nat) (a0 : List Int) (a1 : List Int) : Option (((List Int) × Unit) × (Unit × Unit × Unit)) := callF cx k 204 (a0, a1, ())
noncomputable def F204c3 (k : Nat) (x0 : List Int) (x1 : List Int) (x5 : List Int) (x6 : Int) : Option (((List Int) × Unit) × (Unit × Unit × Unit)) := cutF cx 204 3 Tryz.f204 k (x0, x1, x5, x6, ())
noncomputable def F204c7 (k : Nat) (x0 : List Int) (x1 : List Int) (x5 : List Int) (x6 : Int) (x7 : Int) (x8 : Int) : Option (((List Int) × Unit) × (Unit × Unit × Unit)) := cutF cx 204 7 Tryz.f204 k (x0, x1, x5, x6, x7, x8, ())
/-! loop.example/jetton/spec.l1CmpAbs -/
noncomputable def F206 (k : Nat) (a0 : List Int) (a1 : List Int) : Option ((Int × Unit) × (Unit × Unit × Unit)) := callF cx k 206 (a0, a1, ())
noncomputable def F206c6 (k : Nat) (x0 : List Int) (x1 : List Int) (x5 : Int) : Option ((Int × Unit) × (Unit × Unit × Unit)) := cutF cx 206 6 Tryz.f206 k (x0, x1, x5, ())
/-! loop.example/jetton/impl.limbsOf -/
noncomputable def F207 (k : Nat) (a0 : Int) : Option (((List Int) × Unit) × (Unit × Unit)) := callF cx k 207 (a0, ())
noncomputable def F207c2 (k : Nat) (x0 : Int) (x3 : List Int) : Option (((List Int) × Unit) × (Unit × Unit)) := cutF cx 207 2 Tryz.f207 k (x0, x3, ())
/-! loop.example/jetton/spec.l1Trim -/
noncomputable def F224 (k : Nat) (a0 : List Int) : Option (((List Int) × Unit) × (Unit × Unit)) := callF cx k 224 (a0, ())
noncomputable def F224c2 (k : Nat) (x0 : List Int) (x3 : Int) : Option (((List Int) × Unit) × (Unit × Unit)) := cutF cx 224 2 Tryz.f224 k (x0, x3, ())
/-! loop.example/jetton/spec.l1DivAbs -/
noncomputable def F225 (k : Nat) (a0 : List Int) (a1 : List Int) : Option (((List Int) × (List Int) × Unit) × (Unit × Unit × Unit)) := callF cx k 225 (a0, a1, ())
noncomputable def F225c4 (k : Nat) (x0 : List Int) (x1 : List Int) (x6 : List Int) (x7 : List Int) (x8 : Int) : Option (((List Int) × (List Int) × Unit) × (Unit × Unit × Unit)) := cutF cx 225 4 Tryz.f225 k (x0, x1, x6, x7, x8, ())
/-! slices.Clone[loop.example/jetton/impl.limbs,int] -/
noncomputable def F227 (k : Nat) (a0 : List Int) : Option (((List Int) × Unit) × (Unit × Unit)) := callF cx k 227 (a0, ())
/-! loop.example/jetton/spec.l1Limb -/
noncomputable def F228 (k : Nat) (a0 : List Int) (a1 : Int) : Option ((Int × Unit) × (Unit × Unit × Unit)) := callF cx k 228 (a0, a1, ())
/-! loop.example/jetton/spec.l1Fits -/
noncomputable def F238 (k : Nat) (a0 : List Int) (a1 : List Int) : Option ((Int × Unit) × (Unit × Unit × Unit)) := callF cx k 238 (a0, a1, ())
noncomputable def F238c3 (k : Nat) (x0 : List Int) (x1 : List Int) (x5 : Int) (x6 : Int) : Option ((Int × Unit) × (Unit × Unit × Unit)) := cutF cx 238 3 Tryz.f238 k (x0, x1, x5, x6, ())
/-! loop.example/jetton/spec.l1SubAbs -/
noncomputable def F239 (k : Nat) (a0 : List Int) (a1 : List Int) : Option (((List Int) × Unit) × (Unit × Unit × Unit)) := callF cx k 239 (a0, a1, ())
noncomputable def F239c4 (k : Nat) (x0 : List Int) (x1 : List Int) (x5 : List Int) (x6 : Int) (x7 : Int) : Option (((List Int) × Unit) × (Unit × Unit × Unit)) := cutF cx 239 4 Tryz.f239 k (x0, x1, x5, x6, x7, ())
noncomputable def F239c11 (k : Nat) (x0 : List Int) (x1 : List Int) (x5 : List Int) (x6 : Int) (x7 : Int) (x8 : Int) : Option (((List Int) × Unit) × (Unit × Unit × Unit)) := cutF cx 239 11 Tryz.f239 k (x0, x1, x5, x6, x7, x8, ())
/-! slices.ContainsFunc[[]int,int] -/
noncomputable def F156058 (k : Nat) (a0 : List Int) : Option ((Bool × Unit) × (Unit × Unit × Unit)) := callF cx k 156058 (a0, (()), ())
/-! slices.IndexFunc[[]int,int] -/
noncomputable def F156106 (k : Nat) (a0 : List Int) : Option ((Int × Unit) × (Unit × Unit × Unit)) := callF cx k 156106 (a0, (()), ())
noncomputable def F156106c2 (k : Nat) (x0 : List Int) (x7 : Int) (x8 : Int) : Option ((Int × Unit) × (Unit × Unit × Unit)) := cutF cx 156106 2 Tryz.f106 k (x0, (()), x7, x8, ())
/-! (loop.example/jetton/impl.limbs).div -/
noncomputable def F1018165 (k : Nat) (a0 : Int) (a1 : Int) (a2_0 : List Int) (a3_0 : List Int) (a4_0 : List Int) : Option ((Unit) × (Unit × Unit × ((List Int) × Unit) × ((List Int) × Unit) × ((List Int) × Unit) × Unit)) := roundF cx 1018165 Tryz.f165 k (a0, a1, (a2_0, ()), (a3_0, ()), (a4_0, ()), ())
noncomputable def F1018165c8 (k : Nat) (x3_0 : List Int) (x6_0 : List Int) (x7_0 : List Int) (x8 : Int) (x10 : Int) (x11 : Int) : Option ((Unit) × (Unit × Unit × ((List Int) × Unit) × ((List Int) × Unit) × ((List Int) × Unit) × Unit)) := cutF cx 1018165 8 Tryz.f165 k ((x3_0, ()), (x6_0, ()), (x7_0, ()), x8, x10, x11, ())
theorem F4_eq (k : Nat) (a0 : ByteArray) (a1 : Bool) : F4 (k + 2) a0 a1 =
    if (decide ((a0.size : Int) > (1048576 : Int))) = true then some ((true, ()), ((), (), ())) else (F14 k a0 a1).bind fun r1 => (F15 k a0 a1).bind fun r2 => (F16 k r2.1.1.1 r2.1.1.2.1 r2.1.1.2.2.1 r2.1.1.2.2.2.1 r2.1.1.2.2.2.2.1 r2.1.1.2.2.2.2.2.1 r2.1.1.2.2.2.2.2.2.1 r2.1.1.2.2.2.2.2.2.2.1 r2.1.1.2.2.2.2.2.2.2.2.1 r1.1.1.1 r1.1.1.2.1 r1.1.1.2.2.1 r1.1.1.2.2.2.1 r1.1.1.2.2.2.2.1 r1.1.1.2.2.2.2.2.1 r1.1.1.2.2.2.2.2.2.1 r1.1.1.2.2.2.2.2.2.2.1 r1.1.1.2.2.2.2.2.2.2.2.1).bind fun r3 => if (!r3.1.1) = true then some ((false, ()), ((), (), ())) else if (r2.1.2.1 != r1.1.2.1) = true then some ((false, ()), ((), (), ())) else if (!(r2.1.2.2.1 == r1.1.2.2.1)) = true then some ((false, ()), ((), (), ())) else (F17 k r2.1.1.1 r2.1.1.2.1 r2.1.1.2.2.1 r2.1.1.2.2.2.1 r2.1.1.2.2.2.2.1 r2.1.1.2.2.2.2.2.1 r2.1.1.2.2.2.2.2.2.1 r2.1.1.2.2.2.2.2.2.2.1 r2.1.1.2.2.2.2.2.2.2.2.1 (1 : Int)).bind fun r4 => (F18 k r2.1.1.1 r2.1.1.2.1 r2.1.1.2.2.1 r4.2.1.2.2.2.1 r2.1.1.2.2.2.2.1 r2.1.1.2.2.2.2.2.1 r2.1.1.2.2.2.2.2.2.1 r2.1.1.2.2.2.2.2.2.2.1 r2.1.1.2.2.2.2.2.2.2.2.1 (1 : Int)).bind fun r5 => if (decide (r5.1.1 < (0 : Int))) = true then some ((false, ()), ((), (), ())) else if (r5.1.1 != r4.1.1) = true then some ((false, ()), ((), (), ())) else (F15 k a0 a1).bind fun r6 => (F16 k r6.1.1.1 r6.1.1.2.1 r6.1.1.2.2.1 r6.1.1.2.2.2.1 r6.1.1.2.2.2.2.1 r6.1.1.2.2.2.2.2.1 r6.1.1.2.2.2.2.2.2.1 r6.1.1.2.2.2.2.2.2.2.1 r6.1.1.2.2.2.2.2.2.2.2.1 r1.1.1.1 r1.1.1.2.1 r1.1.1.2.2.1 r1.1.1.2.2.2.1 r1.1.1.2.2.2.2.1 r1.1.1.2.2.2.2.2.1 r1.1.1.2.2.2.2.2.2.1 r1.1.1.2.2.2.2.2.2.2.1 r1.1.1.2.2.2.2.2.2.2.2.1).bind fun r7 => if (!r7.1.1) = true then some ((false, ()), ((), (), ())) else if (r6.1.2.1 != r1.1.2.1) = true then some ((false, ()), ((), (), ())) else if (!(r6.1.2.2.1 == r1.1.2.2.1)) = true then some ((false, ()), ((), (), ())) else (F18 k r2.1.1.1 r2.1.1.2.1 r2.1.1.2.2.1 r4.2.1.2.2.2.1 r2.1.1.2.2.2.2.1 r2.1.1.2.2.2.2.2.1 r2.1.1.2.2.2.2.2.2.1 r2.1.1.2.2.2.2.2.2.2.1 r2.1.1.2.2.2.2.2.2.2.2.1 (1 : Int)).bind fun r8 => if (decide (r8.1.1 < (0 : Int))) = true then some ((false, ()), ((), (), ())) else if (r8.1.1 != r4.1.1) = true then some ((false, ()), ((), (), ())) else some ((true, ()), ((), (), ())) := by kernel_rfl
theorem F6_eq (k : Nat) (a0_0 : Int) (a0_1 : Bool) (a0_2 : Bool) (a0_3 : List Int) (a0_4 : Int) (a0_5 : Int) (a0_6 : Int) (a0_7 : Int) (a0_8 : ByteArray) (a1 : Bool) : F6 (k + 2) a0_0 a0_1 a0_2 a0_3 a0_4 a0_5 a0_6 a0_7 a0_8 a1 =
    (F23 k a0_0 a0_1 a0_2 a0_3 a0_4 a0_5 a0_6 a0_7 a0_8 (1048576 : Int)).bind fun r1 => if (decide (r1.1.1 < (0 : Int))) = true then some ((true, ()), (((), (), (), (), (), (), (), (), (), ()), (), ())) else (F25 k a0_0 a0_1 a0_2 a0_3 a0_4 a0_5 a0_6 a0_7 a0_8).bind fun r2 => (F24 k r2.1.1.1 r2.1.1.2.1 r2.1.1.2.2.1 r2.1.1.2.2.2.1 r2.1.1.2.2.2.2.1 r2.1.1.2.2.2.2.2.1 r2.1.1.2.2.2.2.2.2.1 r2.1.1.2.2.2.2.2.2.2.1 r2.1.1.2.2.2.2.2.2.2.2.1 a1).bind fun r3 => (F25 k a0_0 a0_1 a0_2 a0_3 a0_4 a0_5 a0_6 a0_7 a0_8).bind fun r4 => (F13 k r4.1.1.1 r4.1.1.2.1 r4.1.1.2.2.1 r4.1.1.2.2.2.1 r4.1.1.2.2.2.2.1 r4.1.1.2.2.2.2.2.1 r4.1.1.2.2.2.2.2.2.1 r4.1.1.2.2.2.2.2.2.2.1 r4.1.1.2.2.2.2.2.2.2.2.1 a1).bind fun r5 => if (!(r5.1.1.toList == r3.1.1.toList)) = true then some ((false, ()), (((), (), (), (), (), (), (), (), (), ()), (), ())) else (F25 k a0_0 a0_1 a0_2 a0_3 a0_4 a0_5 a0_6 a0_7 a0_8).bind fun r6 => (F16 k r4.1.1.1 r4.1.1.2.1 r4.1.1.2.2.1 r4.1.1.2.2.2.1 r4.1.1.2.2.2.2.1 r4.1.1.2.2.2.2.2.1 r4.1.1.2.2.2.2.2.2.1 r4.1.1.2.2.2.2.2.2.2.1 r4.1.1.2.2.2.2.2.2.2.2.1 r6.1.1.1 r6.1.1.2.1 r6.1.1.2.2.1 r6.1.1.2.2.2.1 r6.1.1.2.2.2.2.1 r6.1.1.2.2.2.2.2.1 r6.1.1.2.2.2.2.2.2.1 r6.1.1.2.2.2.2.2.2.2.1 r6.1.1.2.2.2.2.2.2.2.2.1).bind fun r7 => if (!r7.1.1) = true then some ((false, ()), (((), (), (), (), (), (), (), (), (), ()), (), ())) else some ((true, ()), (((), (), (), (), (), (), (), (), (), ()), (), ())) := by kernel_rfl
theorem F13_eq (k : Nat) (a0_0 : Int) (a0_1 : Bool) (a0_2 : Bool) (a0_3 : List Int) (a0_4 : Int) (a0_5 : Int) (a0_6 : Int) (a0_7 : Int) (a0_8 : ByteArray) (a1 : Bool) : F13 (k + 2) a0_0 a0_1 a0_2 a0_3 a0_4 a0_5 a0_6 a0_7 a0_8 a1 =
    (F33 k a0_0 a0_1 a0_2 a0_3 a0_4 a0_5 a0_6 a0_7 a0_8).bind fun r1 => if (!r1.1.1) = true then some (((⟨#[]⟩ : ByteArray), ()), (((), (), (), (), (), (), (), (), (), ()), (), ())) else (F37 k a0_0 a0_1 a0_2 a0_3 a0_4 a0_5 a0_6 a0_7 a0_8 a1).bind fun r2 => some (((bytesOf r2.1.1), ()), (((), (), (), (), (), (), (), (), (), ()), (), ())) := by kernel_rfl
theorem F14_eq (k : Nat) (a0 : ByteArray) (a1 : Bool) : F14 (k + 2) a0 a1 =
    (F38 k a0 a1).bind fun r1 => if (decide (r1.1.2.1 < (0 : Int))) = true then some ((((0 : Int), false, false, ([] : List Int), (0 : Int), (0 : Int), (0 : Int), (0 : Int), ByteArray.empty, ()), (0 : Int), false, ()), ((), (), ())) else some (((r1.1.1.1, r1.1.1.2.1, r1.1.1.2.2.1, r1.1.1.2.2.2.1, r1.1.1.2.2.2.2.1, r1.1.1.2.2.2.2.2.1, r1.1.1.2.2.2.2.2.2.1, r1.1.1.2.2.2.2.2.2.2.1, r1.1.1.2.2.2.2.2.2.2.2.1, ()), r1.1.2.1, true, ()), ((), (), ())) := by kernel_rfl
theorem F15_eq (k : Nat) (a0 : ByteArray) (a1 : Bool) : F15 (k + 2) a0 a1 =
    if (decide (0 ≤ (if (64 : Int) < (a0.size : Int) then (64 : Int) else (a0.size : Int))) && decide ((if (64 : Int) < (a0.size : Int) then (64 : Int) else (a0.size : Int)) ≤ (a0.size : Int))) = true then if a1 = true then (F39 k ((a0.extract 0 ((if (64 : Int) < (a0.size : Int) then (64 : Int) else (a0.size : Int)).toNat)).data.toList.map fun b => (b.toNat : Int))).bind fun r1 => F15c4 k a0 a1 (0 : Int) false false ([] : List Int) (0 : Int) (0 : Int) (0 : Int) (0 : Int) ByteArray.empty r1.1.1 else F15c4 k a0 a1 (0 : Int) false false ([] : List Int) (0 : Int) (0 : Int) (0 : Int) (0 : Int) ByteArray.empty ((a0.extract 0 ((if (64 : Int) < (a0.size : Int) then (64 : Int) else (a0.size : Int)).toNat)).data.toList.map fun b => (b.toNat : Int)) else none := by kernel_rfl
theorem F15c4_eq (k : Nat) (x0 : ByteArray) (x1 : Bool) (x4_0 : Int) (x4_1 : Bool) (x4_2 : Bool) (x4_3 : List Int) (x4_4 : Int) (x4_5 : Int) (x4_6 : Int) (x4_7 : Int) (x4_8 : ByteArray) (x7 : List Int) : F15c4 (k + 1) x0 x1 x4_0 x4_1 x4_2 x4_3 x4_4 x4_5 x4_6 x4_7 x4_8 x7 =
    if ((x7.length : Int) == (0 : Int)) = true then some ((((0 : Int), false, false, ([] : List Int), (0 : Int), (0 : Int), (0 : Int), (0 : Int), ByteArray.empty, ()), (0 : Int), false, ()), ((), (), ())) else (x7[0]?).bind fun y2 => (F40 k (IntKind.i64.wrap ((IntKind.i64.wrap y2) - (1 : Int))) (0 : Int) (5 : Int)).bind fun r3 => if (!r3.1.1) = true then some ((((0 : Int), false, false, ([] : List Int), (0 : Int), (0 : Int), (0 : Int), (0 : Int), ByteArray.empty, ()), (0 : Int), false, ()), ((), (), ())) else (x7[0]?).bind fun y4 => if (decide (0 ≤ (1 : Int)) && decide ((1 : Int) ≤ (x7.length : Int))) = true then if ((IntKind.i64.wrap ((IntKind.i64.wrap y4) - (1 : Int))) == (1 : Int)) = true then if (decide (((slices x7 1 x7.length).length : Int) > (0 : Int))) = true then ((slices x7 1 x7.length)[0]?).bind fun y5 => F15c18 k x0 x1 x4_0 x4_1 x4_2 x4_3 x4_4 x4_5 x4_6 x4_7 x4_8 (IntKind.i64.wrap ((IntKind.i64.wrap y4) - (1 : Int))) (y5 == (1 : Int)) false ([] : List Int) (0 : Int) (0 : Int) (0 : Int) (0 : Int) ByteArray.empty else if ((IntKind.i64.wrap ((IntKind.i64.wrap y4) - (1 : Int))) == (2 : Int)) = true then (F41 k (slices x7 1 x7.length)).bind fun r6 => F15c18 k x0 x1 x4_0 x4_1 x4_2 x4_3 x4_4 x4_5 x4_6 x4_7 x4_8 (IntKind.i64.wrap ((IntKind.i64.wrap y4) - (1 : Int))) false r6.1.1.1 r6.1.1.2.1 r6.1.1.2.2.1 (0 : Int) (0 : Int) (0 : Int) ByteArray.empty else if ((IntKind.i64.wrap ((IntKind.i64.wrap y4) - (1 : Int))) == (3 : Int)) = true then if (decide (((slices x7 1 x7.length).length : Int) > (2 : Int))) = true then (F42 k (slices x7 1 x7.length)).bind fun r7 => F15c18 k x0 x1 x4_0 x4_1 x4_2 x4_3 x4_4 x4_5 x4_6 x4_7 x4_8 (IntKind.i64.wrap ((IntKind.i64.wrap y4) - (1 : Int))) false false ([] : List Int) (0 : Int) r7.1.1 (0 : Int) (0 : Int) ByteArray.empty else if ((IntKind.i64.wrap ((IntKind.i64.wrap y4) - (1 : Int))) == (4 : Int)) = true then if (decide (((slices x7 1 x7.length).length : Int) > (5 : Int))) = true then (F42 k (slices x7 1 x7.length)).bind fun r8 => if (decide (0 ≤ (3 : Int)) && decide ((3 : Int) ≤ ((slices x7 1 x7.length).length : Int))) = true then (F42 k (slices (slices x7 1 x7.length) 3 ((slices x7 1 x7.length).length))).bind fun r9 => F15c18 k x0 x1 x4_0 x4_1 x4_2 x4_3 x4_4 x4_5 x4_6 x4_7 x4_8 (IntKind.i64.wrap ((IntKind.i64.wrap y4) - (1 : Int))) false false ([] : List Int) (0 : Int) (0 : Int) (IntKind.i64.wrap (r8.1.1 - (120000 : Int))) (IntKind.i64.wrap (r9.1.1 - (4000000 : Int))) ByteArray.empty else none else if ((IntKind.i64.wrap ((IntKind.i64.wrap y4) - (1 : Int))) == (5 : Int)) = true then (F43 k (bytesOf (slices x7 1 x7.length)) (⟨#[0]⟩ : ByteArray)).bind fun r10 => F15c18 k x0 x1 x4_0 x4_1 x4_2 x4_3 x4_4 x4_5 x4_6 x4_7 x4_8 (IntKind.i64.wrap ((IntKind.i64.wrap y4) - (1 : Int))) false false ([] : List Int) (0 : Int) (0 : Int) (0 : Int) (0 : Int) r10.1.1 else F15c18 k x0 x1 x4_0 x4_1 x4_2 x4_3 x4_4 x4_5 x4_6 x4_7 x4_8 (IntKind.i64.wrap ((IntKind.i64.wrap y4) - (1 : Int))) false false ([] : List Int) (0 : Int) (0 : Int) (0 : Int) (0 : Int) ByteArray.empty else if ((IntKind.i64.wrap ((IntKind.i64.wrap y4) - (1 : Int))) == (5 : Int)) = true then (F43 k (bytesOf (slices x7 1 x7.length)) (⟨#[0]⟩ : ByteArray)).bind fun r11 => F15c18 k x0 x1 x4_0 x4_1 x4_2 x4_3 x4_4 x4_5 x4_6 x4_7 x4_8 (IntKind.i64.wrap ((IntKind.i64.wrap y4) - (1 : Int))) false false ([] : List Int) (0 : Int) (0 : Int) (0 : Int) (0 : Int) r11.1.1 else F15c18 k x0 x1 x4_0 x4_1 x4_2 x4_3 x4_4 x4_5 x4_6 x4_7 x4_8 (IntKind.i64.wrap ((IntKind.i64.wrap y4) - (1 : Int))) false false ([] : List Int) (0 : Int) (0 : Int) (0 : Int) (0 : Int) ByteArray.empty else if ((IntKind.i64.wrap ((IntKind.i64.wrap y4) - (1 : Int))) == (4 : Int)) = true then if (decide (((slices x7 1 x7.length).length : Int) > (5 : Int))) = true then (F42 k (slices x7 1 x7.length)).bind fun r12 => if (decide (0 ≤ (3 : Int)) && decide ((3 : Int) ≤ ((slices x7 1 x7.length).length : Int))) = true then (F42 k (slices (slices x7 1 x7.length) 3 ((slices x7 1 x7.length).length))).bind fun r13 => F15c18 k x0 x1 x4_0 x4_1 x4_2 x4_3 x4_4 x4_5 x4_6 x4_7 x4_8 (IntKind.i64.wrap ((IntKind.i64.wrap y4) - (1 : Int))) false false ([] : List Int) (0 : Int) (0 : Int) (IntKind.i64.wrap (r12.1.1 - (120000 : Int))) (IntKind.i64.wrap (r13.1.1 - (4000000 : Int))) ByteArray.empty else none else if ((IntKind.i64.wrap ((IntKind.i64.wrap y4) - (1 : Int))) == (5 : Int)) = true then (F43 k (bytesOf (slices x7 1 x7.length)) (⟨#[0]⟩ : ByteArray)).bind fun r14 => F15c18 k x0 x1 x4_0 x4_1 x4_2 x4_3 x4_4 x4_5 x4_6 x4_7 x4_8 (IntKind.i64.wrap ((IntKind.i64.wrap y4) - (1 : Int))) false false ([] : List Int) (0 : Int) (0 : Int) (0 : Int) (0 : Int) r14.1.1 else F15c18 k x0 x1 x4_0 x4_1 x4_2 x4_3 x4_4 x4_5 x4_6 x4_7 x4_8 (IntKind.i64.wrap ((IntKind.i64.wrap y4) - (1 : Int))) false false ([] : List Int) (0 : Int) (0 : Int) (0 : Int) (0 : Int) ByteArray.empty else if ((IntKind.i64.wrap ((IntKind.i64.wrap y4) - (1 : Int))) == (5 : Int)) = true then (F43 k (bytesOf (slices x7 1 x7.length)) (⟨#[0]⟩ : ByteArray)).bind fun r15 => F15c18 k x0 x1 x4_0 x4_1 x4_2 x4_3 x4_4 x4_5 x4_6 x4_7 x4_8 (IntKind.i64.wrap ((IntKind.i64.wrap y4) - (1 : Int))) false false ([] : List Int) (0 : Int) (0 : Int) (0 : Int) (0 : Int) r15.1.1 else F15c18 k x0 x1 x4_0 x4_1 x4_2 x4_3 x4_4 x4_5 x4_6 x4_7 x4_8 (IntKind.i64.wrap ((IntKind.i64.wrap y4) - (1 : Int))) false false ([] : List Int) (0 : Int) (0 : Int) (0 : Int) (0 : Int) ByteArray.empty else if ((IntKind.i64.wrap ((IntKind.i64.wrap y4) - (1 : Int))) == (2 : Int)) = true then (F41 k (slices x7 1 x7.length)).bind fun r16 => F15c18 k x0 x1 x4_0 x4_1 x4_2 x4_3 x4_4 x4_5 x4_6 x4_7 x4_8 (IntKind.i64.wrap ((IntKind.i64.wrap y4) - (1 : Int))) false r16.1.1.1 r16.1.1.2.1 r16.1.1.2.2.1 (0 : Int) (0 : Int) (0 : Int) ByteArray.empty else if ((IntKind.i64.wrap ((IntKind.i64.wrap y4) - (1 : Int))) == (3 : Int)) = true then if (decide (((slices x7 1 x7.length).length : Int) > (2 : Int))) = true then (F42 k (slices x7 1 x7.length)).bind fun r17 => F15c18 k x0 x1 x4_0 x4_1 x4_2 x4_3 x4_4 x4_5 x4_6 x4_7 x4_8 (IntKind.i64.wrap ((IntKind.i64.wrap y4) - (1 : Int))) false false ([] : List Int) (0 : Int) r17.1.1 (0 : Int) (0 : Int) ByteArray.empty else if ((IntKind.i64.wrap ((IntKind.i64.wrap y4) - (1 : Int))) == (4 : Int)) = true then if (decide (((slices x7 1 x7.length).length : Int) > (5 : Int))) = true then (F42 k (slices x7 1 x7.length)).bind fun r18 => if (decide (0 ≤ (3 : Int)) && decide ((3 : Int) ≤ ((slices x7 1 x7.length).length : Int))) = true then (F42 k (slices (slices x7 1 x7.length) 3 ((slices x7 1 x7.length).length))).bind fun r19 => F15c18 k x0 x1 x4_0 x4_1 x4_2 x4_3 x4_4 x4_5 x4_6 x4_7 x4_8 (IntKind.i64.wrap ((IntKind.i64.wrap y4) - (1 : Int))) false false ([] : List Int) (0 : Int) (0 : Int) (IntKind.i64.wrap (r18.1.1 - (120000 : Int))) (IntKind.i64.wrap (r19.1.1 - (4000000 : Int))) ByteArray.empty else none else if ((IntKind.i64.wrap ((IntKind.i64.wrap y4) - (1 : Int))) == (5 : Int)) = true then (F43 k (bytesOf (slices x7 1 x7.length)) (⟨#[0]⟩ : ByteArray)).bind fun r20 => F15c18 k x0 x1 x4_0 x4_1 x4_2 x4_3 x4_4 x4_5 x4_6 x4_7 x4_8 (IntKind.i64.wrap ((IntKind.i64.wrap y4) - (1 : Int))) false false ([] : List Int) (0 : Int) (0 : Int) (0 : Int) (0 : Int) r20.1.1 else F15c18 k x0 x1 x4_0 x4_1 x4_2 x4_3 x4_4 x4_5 x4_6 x4_7 x4_8 (IntKind.i64.wrap ((IntKind.i64.wrap y4) - (1 : Int))) false false ([] : List Int) (0 : Int) (0 : Int) (0 : Int) (0 : Int) ByteArray.empty else if ((IntKind.i64.wrap ((IntKind.i64.wrap y4) - (1 : Int))) == (5 : Int)) = true then (F43 k (bytesOf (slices x7 1 x7.length)) (⟨#[0]⟩ : ByteArray)).bind fun r21 => F15c18 k x0 x1 x4_0 x4_1 x4_2 x4_3 x4_4 x4_5 x4_6 x4_7 x4_8 (IntKind.i64.wrap ((IntKind.i64.wrap y4) - (1 : Int))) false false ([] : List Int) (0 : Int) (0 : Int) (0 : Int) (0 : Int) r21.1.1 else F15c18 k x0 x1 x4_0 x4_1 x4_2 x4_3 x4_4 x4_5 x4_6 x4_7 x4_8 (IntKind.i64.wrap ((IntKind.i64.wrap y4) - (1 : Int))) false false ([] : List Int) (0 : Int) (0 : Int) (0 : Int) (0 : Int) ByteArray.empty else if ((IntKind.i64.wrap ((IntKind.i64.wrap y4) - (1 : Int))) == (4 : Int)) = true then if (decide (((slices x7 1 x7.length).length : Int) > (5 : Int))) = true then (F42 k (slices x7 1 x7.length)).bind fun r22 => if (decide (0 ≤ (3 : Int)) && decide ((3 : Int) ≤ ((slices x7 1 x7.length).length : Int))) = true then (F42 k (slices (slices x7 1 x7.length) 3 ((slices x7 1 x7.length).length))).bind fun r23 => F15c18 k x0 x1 x4_0 x4_1 x4_2 x4_3 x4_4 x4_5 x4_6 x4_7 x4_8 (IntKind.i64.wrap ((IntKind.i64.wrap y4) - (1 : Int))) false false ([] : List Int) (0 : Int) (0 : Int) (IntKind.i64.wrap (r22.1.1 - (120000 : Int))) (IntKind.i64.wrap (r23.1.1 - (4000000 : Int))) ByteArray.empty else none else if ((IntKind.i64.wrap ((IntKind.i64.wrap y4) - (1 : Int))) == (5 : Int)) = true then (F43 k (bytesOf (slices x7 1 x7.length)) (⟨#[0]⟩ : ByteArray)).bind fun r24 => F15c18 k x0 x1 x4_0 x4_1 x4_2 x4_3 x4_4 x4_5 x4_6 x4_7 x4_8 (IntKind.i64.wrap ((IntKind.i64.wrap y4) - (1 : Int))) false false ([] : List Int) (0 : Int) (0 : Int) (0 : Int) (0 : Int) r24.1.1 else F15c18 k x0 x1 x4_0 x4_1 x4_2 x4_3 x4_4 x4_5 x4_6 x4_7 x4_8 (IntKind.i64.wrap ((IntKind.i64.wrap y4) - (1 : Int))) false false ([] : List Int) (0 : Int) (0 : Int) (0 : Int) (0 : Int) ByteArray.empty else if ((IntKind.i64.wrap ((IntKind.i64.wrap y4) - (1 : Int))) == (5 : Int)) = true then (F43 k (bytesOf (slices x7 1 x7.length)) (⟨#[0]⟩ : ByteArray)).bind fun r25 => F15c18 k x0 x1 x4_0 x4_1 x4_2 x4_3 x4_4 x4_5 x4_6 x4_7 x4_8 (IntKind.i64.wrap ((IntKind.i64.wrap y4) - (1 : Int))) false false ([] : List Int) (0 : Int) (0 : Int) (0 : Int) (0 : Int) r25.1.1 else F15c18 k x0 x1 x4_0 x4_1 x4_2 x4_3 x4_4 x4_5 x4_6 x4_7 x4_8 (IntKind.i64.wrap ((IntKind.i64.wrap y4) - (1 : Int))) false false ([] : List Int) (0 : Int) (0 : Int) (0 : Int) (0 : Int) ByteArray.empty else none := by kernel_rfl
theorem F15c18_eq (k : Nat) (x0 : ByteArray) (x1 : Bool) (x4_0 : Int) (x4_1 : Bool) (x4_2 : Bool) (x4_3 : List Int) (x4_4 : Int) (x4_5 : Int) (x4_6 : Int) (x4_7 : Int) (x4_8 : ByteArray) (x8_0 : Int) (x8_1 : Bool) (x8_2 : Bool) (x8_3 : List Int) (x8_4 : Int) (x8_5 : Int) (x8_6 : Int) (x8_7 : Int) (x8_8 : ByteArray) : F15c18 (k + 1) x0 x1 x4_0 x4_1 x4_2 x4_3 x4_4 x4_5 x4_6 x4_7 x4_8 x8_0 x8_1 x8_2 x8_3 x8_4 x8_5 x8_6 x8_7 x8_8 =
    (F13 k x8_0 x8_1 x8_2 x8_3 x8_4 x8_5 x8_6 x8_7 x8_8 x1).bind fun r26 => if (r26.1.1.toList == (⟨#[]⟩ : ByteArray).toList) = true then some ((((0 : Int), false, false, ([] : List Int), (0 : Int), (0 : Int), (0 : Int), (0 : Int), ByteArray.empty, ()), (0 : Int), false, ()), ((), (), ())) else (F44 k x0 r26.1.1).bind fun r27 => if (!r27.1.1) = true then some ((((0 : Int), false, false, ([] : List Int), (0 : Int), (0 : Int), (0 : Int), (0 : Int), ByteArray.empty, ()), (0 : Int), false, ()), ((), (), ())) else some (((x8_0, x8_1, x8_2, x8_3, x8_4, x8_5, x8_6, x8_7, x8_8, ()), (r26.1.1.size : Int), true, ()), ((), (), ())) := by kernel_rfl
theorem F16_eq (k : Nat) (a0_0 : Int) (a0_1 : Bool) (a0_2 : Bool) (a0_3 : List Int) (a0_4 : Int) (a0_5 : Int) (a0_6 : Int) (a0_7 : Int) (a0_8 : ByteArray) (a1_0 : Int) (a1_1 : Bool) (a1_2 : Bool) (a1_3 : List Int) (a1_4 : Int) (a1_5 : Int) (a1_6 : Int) (a1_7 : Int) (a1_8 : ByteArray) : F16 (k + 2) a0_0 a0_1 a0_2 a0_3 a0_4 a0_5 a0_6 a0_7 a0_8 a1_0 a1_1 a1_2 a1_3 a1_4 a1_5 a1_6 a1_7 a1_8 =
    if (a0_0 != a1_0) = true then some ((false, ()), (((), (), (), (), (), (), (), (), (), ()), ((), (), (), (), (), (), (), (), (), ()), ())) else if (!(a0_1 == a1_1)) = true then some ((false, ()), (((), (), (), (), (), (), (), (), (), ()), ((), (), (), (), (), (), (), (), (), ()), ())) else (F45 k a0_2 a0_3 a0_4 a1_2 a1_3 a1_4).bind fun r1 => if (!r1.1.1) = true then some ((false, ()), (((), (), (), (), (), (), (), (), (), ()), ((), (), (), (), (), (), (), (), (), ()), ())) else if (a0_5 != a1_5) = true then some ((false, ()), (((), (), (), (), (), (), (), (), (), ()), ((), (), (), (), (), (), (), (), (), ()), ())) else (F46 k a0_6 a0_7 a1_6 a1_7).bind fun r2 => if (!r2.1.1) = true then some ((false, ()), (((), (), (), (), (), (), (), (), (), ()), ((), (), (), (), (), (), (), (), (), ()), ())) else if (!(a0_8.toList == a1_8.toList)) = true then some ((false, ()), (((), (), (), (), (), (), (), (), (), ()), ((), (), (), (), (), (), (), (), (), ()), ())) else some ((true, ()), (((), (), (), (), (), (), (), (), (), ()), ((), (), (), (), (), (), (), (), (), ()), ())) := by kernel_rfl
theorem F17_eq (k : Nat) (a0_0 : Int) (a0_1 : Bool) (a0_2 : Bool) (a0_3 : List Int) (a0_4 : Int) (a0_5 : Int) (a0_6 : Int) (a0_7 : Int) (a0_8 : ByteArray) (a1 : Int) : F17 (k + 2) a0_0 a0_1 a0_2 a0_3 a0_4 a0_5 a0_6 a0_7 a0_8 a1 =
    (F47 k a0_2 a0_3 a0_4 a1).bind fun r1 => some ((r1.1.1, ()), (((), (), (), r1.2.1.2.1, (), (), (), (), (), ()), (), ())) := by kernel_rfl
theorem F18_eq (k : Nat) (a0_0 : Int) (a0_1 : Bool) (a0_2 : Bool) (a0_3 : List Int) (a0_4 : Int) (a0_5 : Int) (a0_6 : Int) (a0_7 : Int) (a0_8 : ByteArray) (a1 : Int) : F18 (k + 2) a0_0 a0_1 a0_2 a0_3 a0_4 a0_5 a0_6 a0_7 a0_8 a1 =
    (F48 k a0_2 a0_3 a0_4 a1).bind fun r1 => if (decide (r1.1.1 < (0 : Int))) = true then some (((-1 : Int), ()), (((), (), (), (), (), (), (), (), (), ()), (), ())) else some ((r1.1.1, ()), (((), (), (), (), (), (), (), (), (), ()), (), ())) := by kernel_rfl
theorem F23_eq (k : Nat) (a0_0 : Int) (a0_1 : Bool) (a0_2 : Bool) (a0_3 : List Int) (a0_4 : Int) (a0_5 : Int) (a0_6 : Int) (a0_7 : Int) (a0_8 : ByteArray) (a1 : Int) : F23 (k + 2) a0_0 a0_1 a0_2 a0_3 a0_4 a0_5 a0_6 a0_7 a0_8 a1 =
    (F65 k a0_2 a0_3 a0_4 a1).bind fun r1 => if (decide (r1.1.1 < (0 : Int))) = true then some (((-1 : Int), ()), (((), (), (), (), (), (), (), (), (), ()), (), ())) else if (decide ((IntKind.i64.wrap (r1.1.1 - (a0_8.size : Int))) < (0 : Int))) = true then some (((-1 : Int), ()), (((), (), (), (), (), (), (), (), (), ()), (), ())) else some (((IntKind.i64.wrap (r1.1.1 - (a0_8.size : Int))), ()), (((), (), (), (), (), (), (), (), (), ()), (), ())) := by kernel_rfl
theorem F24_eq (k : Nat) (a0_0 : Int) (a0_1 : Bool) (a0_2 : Bool) (a0_3 : List Int) (a0_4 : Int) (a0_5 : Int) (a0_6 : Int) (a0_7 : Int) (a0_8 : ByteArray) (a1 : Bool) : F24 (k + 2) a0_0 a0_1 a0_2 a0_3 a0_4 a0_5 a0_6 a0_7 a0_8 a1 =
    (F35 k a0_0 a0_1 a0_2 a0_3 a0_4 a0_5 a0_6 a0_7 a0_8).bind fun r1 => if (!r1.1.1) = true then some (((⟨#[]⟩ : ByteArray), ()), (((), (), (), (), (), (), (), (), (), ()), (), ())) else (F66 k a0_0 a0_1 a0_2 a0_3 a0_4 a0_5 a0_6 a0_7 a0_8 a1).bind fun r2 => some ((r2.1.1, ()), (((), (), (), (), (), (), (), (), (), ()), (), ())) := by kernel_rfl
theorem F25_eq (k : Nat) (a0_0 : Int) (a0_1 : Bool) (a0_2 : Bool) (a0_3 : List Int) (a0_4 : Int) (a0_5 : Int) (a0_6 : Int) (a0_7 : Int) (a0_8 : ByteArray) : F25 (k + 2) a0_0 a0_1 a0_2 a0_3 a0_4 a0_5 a0_6 a0_7 a0_8 =
    (F67 k a0_2 a0_3 a0_4).bind fun r1 => (F68 k a0_6 a0_7).bind fun r2 => some (((a0_0, a0_1, r1.1.1.1, r1.1.1.2.1, r1.1.1.2.2.1, a0_5, r2.1.1.1, r2.1.1.2.1, a0_8, ()), ()), (((), (), (), (), (), (), (), (), (), ()), ())) := by kernel_rfl
theorem F33_eq (k : Nat) (a0_0 : Int) (a0_1 : Bool) (a0_2 : Bool) (a0_3 : List Int) (a0_4 : Int) (a0_5 : Int) (a0_6 : Int) (a0_7 : Int) (a0_8 : ByteArray) : F33 (k + 2) a0_0 a0_1 a0_2 a0_3 a0_4 a0_5 a0_6 a0_7 a0_8 =
    if (a0_0 == (0 : Int)) = true then F33c21 k a0_0 a0_1 a0_2 a0_3 a0_4 a0_5 a0_6 a0_7 a0_8 true else if (a0_0 == (1 : Int)) = true then F33c21 k a0_0 false a0_2 a0_3 a0_4 a0_5 a0_6 a0_7 a0_8 true else if (a0_0 == (2 : Int)) = true then (F71 k a0_2 a0_3 a0_4).bind fun r1 => F33c21 k a0_0 a0_1 false ([] : List Int) (0 : Int) a0_5 a0_6 a0_7 a0_8 r1.1.1 else if (a0_0 == (3 : Int)) = true then (F72 k a0_5).bind fun r2 => F33c21 k a0_0 a0_1 a0_2 a0_3 a0_4 (0 : Int) a0_6 a0_7 a0_8 r2.1.1 else if (a0_0 == (4 : Int)) = true then (F73 k a0_6 a0_7).bind fun r3 => F33c21 k a0_0 a0_1 a0_2 a0_3 a0_4 a0_5 (0 : Int) (0 : Int) a0_8 r3.1.1 else if (a0_0 == (5 : Int)) = true then F33c17 k a0_0 a0_1 a0_2 a0_3 a0_4 a0_5 a0_6 a0_7 a0_8 a0_0 a0_1 a0_2 a0_3 a0_4 a0_5 a0_6 a0_7 (⟨#[]⟩ : ByteArray) (decide ((a0_8.size : Int) ≤ (12 : Int))) (a0_8.size : Int) (0 : Int) else F33c21 k a0_0 a0_1 a0_2 a0_3 a0_4 a0_5 a0_6 a0_7 a0_8 false := by kernel_rfl
theorem F33c21_eq (k : Nat) (x3_0 : Int) (x3_1 : Bool) (x3_2 : Bool) (x3_3 : List Int) (x3_4 : Int) (x3_5 : Int) (x3_6 : Int) (x3_7 : Int) (x3_8 : ByteArray) (x4 : Bool) : F33c21 (k + 1) x3_0 x3_1 x3_2 x3_3 x3_4 x3_5 x3_6 x3_7 x3_8 x4 =
    if x4 = true then if (!x3_1) = true then (F74 k x3_2 x3_3 x3_4).bind fun r4 => if r4.1.1 = true then if (x3_5 == (0 : Int)) = true then if (x3_6 == (0 : Int) && (x3_7 == (0 : Int) && true)) = true then some (((x3_8.toList == (⟨#[]⟩ : ByteArray).toList), ()), (((), (), (), (), (), (), (), (), (), ()), ())) else some ((false, ()), (((), (), (), (), (), (), (), (), (), ()), ())) else some ((false, ()), (((), (), (), (), (), (), (), (), (), ()), ())) else some ((false, ()), (((), (), (), (), (), (), (), (), (), ()), ())) else some ((false, ()), (((), (), (), (), (), (), (), (), (), ()), ())) else some ((false, ()), (((), (), (), (), (), (), (), (), (), ()), ())) := by kernel_rfl
theorem F33c17_eq (k : Nat) (x1_0 : Int) (x1_1 : Bool) (x1_2 : Bool) (x1_3 : List Int) (x1_4 : Int) (x1_5 : Int) (x1_6 : Int) (x1_7 : Int) (x1_8 : ByteArray) (x3_0 : Int) (x3_1 : Bool) (x3_2 : Bool) (x3_3 : List Int) (x3_4 : Int) (x3_5 : Int) (x3_6 : Int) (x3_7 : Int) (x3_8 : ByteArray) (x4 : Bool) (x43 : Int) (x44 : Int) : F33c17 (k + 1) x1_0 x1_1 x1_2 x1_3 x1_4 x1_5 x1_6 x1_7 x1_8 x3_0 x3_1 x3_2 x3_3 x3_4 x3_5 x3_6 x3_7 x3_8 x4 x43 x44 =
    if (decide (x44 < x43)) = true then if x4 = true then if (decide (0 ≤ x44)) = true then (x1_8[x44.toNat]?).bind fun u5 => (F40 k (IntKind.i64.wrap (u5.toNat : Int)) (32 : Int) (126 : Int)).bind fun r6 => F33c17 k x1_0 x1_1 x1_2 x1_3 x1_4 x1_5 x1_6 x1_7 x1_8 x3_0 x3_1 x3_2 x3_3 x3_4 x3_5 x3_6 x3_7 x3_8 r6.1.1 x43 (IntKind.i64.wrap (x44 + (1 : Int))) else none else F33c17 k x1_0 x1_1 x1_2 x1_3 x1_4 x1_5 x1_6 x1_7 x1_8 x3_0 x3_1 x3_2 x3_3 x3_4 x3_5 x3_6 x3_7 x3_8 false x43 (IntKind.i64.wrap (x44 + (1 : Int))) else F33c21 k x3_0 x3_1 x3_2 x3_3 x3_4 x3_5 x3_6 x3_7 x3_8 x4 := by kernel_rfl
theorem F35_eq (k : Nat) (a0_0 : Int) (a0_1 : Bool) (a0_2 : Bool) (a0_3 : List Int) (a0_4 : Int) (a0_5 : Int) (a0_6 : Int) (a0_7 : Int) (a0_8 : ByteArray) : F35 (k + 2) a0_0 a0_1 a0_2 a0_3 a0_4 a0_5 a0_6 a0_7 a0_8 =
    (F77 k a0_0 (0 : Int) (5 : Int)).bind fun r1 => if (!r1.1.1) = true then some ((false, ()), (((), (), (), (), (), (), (), (), (), ()), ())) else (F78 k a0_0 a0_1 a0_2 a0_3 a0_4 a0_5 a0_6 a0_7 a0_8).bind fun r2 => if (!r2.1.1) = true then some ((false, ()), (((), (), (), (), (), (), (), (), (), ()), ())) else if (a0_0 == (2 : Int)) = true then (F79 k a0_2 a0_3 a0_4).bind fun r3 => some ((r3.1.1, ()), (((), (), (), (), (), (), (), (), (), ()), ())) else if (a0_0 == (3 : Int)) = true then (F80 k a0_5).bind fun r4 => some ((r4.1.1, ()), (((), (), (), (), (), (), (), (), (), ()), ())) else if (a0_0 == (4 : Int)) = true then (F81 k a0_6 a0_7).bind fun r5 => some ((r5.1.1, ()), (((), (), (), (), (), (), (), (), (), ()), ())) else (F82 k a0_8).bind fun r6 => some ((r6.1.1, ()), (((), (), (), (), (), (), (), (), (), ()), ())) := by kernel_rfl
theorem F37_eq (k : Nat) (a0_0 : Int) (a0_1 : Bool) (a0_2 : Bool) (a0_3 : List Int) (a0_4 : Int) (a0_5 : Int) (a0_6 : Int) (a0_7 : Int) (a0_8 : ByteArray) (a1 : Bool) : F37 (k + 2) a0_0 a0_1 a0_2 a0_3 a0_4 a0_5 a0_6 a0_7 a0_8 a1 =
    if (a0_0 == (1 : Int)) = true then (F85 k a0_1).bind fun r1 => if (decide ([(IntKind.u8.wrap (IntKind.i64.wrap (a0_0 + (1 : Int))))].length + [(IntKind.u8.wrap r1.1.1)].length ≤ 140737488355328)) = true then F37c13 k a1 ([(IntKind.u8.wrap (IntKind.i64.wrap (a0_0 + (1 : Int))))] ++ [(IntKind.u8.wrap r1.1.1)]) else none else if (a0_0 == (2 : Int)) = true then (F86 k a0_2 a0_3 a0_4).bind fun r2 => if (decide ([(IntKind.u8.wrap (IntKind.i64.wrap (a0_0 + (1 : Int))))].length + r2.1.1.length ≤ 140737488355328)) = true then F37c13 k a1 ([(IntKind.u8.wrap (IntKind.i64.wrap (a0_0 + (1 : Int))))] ++ r2.1.1) else none else if (a0_0 == (3 : Int)) = true then (F87 k a0_5).bind fun r3 => if (decide ([(IntKind.u8.wrap (IntKind.i64.wrap (a0_0 + (1 : Int))))].length + r3.1.1.length ≤ 140737488355328)) = true then F37c13 k a1 ([(IntKind.u8.wrap (IntKind.i64.wrap (a0_0 + (1 : Int))))] ++ r3.1.1) else none else if (a0_0 == (4 : Int)) = true then (F87 k (IntKind.i64.wrap (a0_6 + (120000 : Int)))).bind fun r4 => if (decide ([(IntKind.u8.wrap (IntKind.i64.wrap (a0_0 + (1 : Int))))].length + r4.1.1.length ≤ 140737488355328)) = true then (F87 k (IntKind.i64.wrap (a0_7 + (4000000 : Int)))).bind fun r5 => if (decide (([(IntKind.u8.wrap (IntKind.i64.wrap (a0_0 + (1 : Int))))] ++ r4.1.1).length + r5.1.1.length ≤ 140737488355328)) = true then F37c13 k a1 (([(IntKind.u8.wrap (IntKind.i64.wrap (a0_0 + (1 : Int))))] ++ r4.1.1) ++ r5.1.1) else none else none else if (a0_0 == (5 : Int)) = true then if (decide ([(IntKind.u8.wrap (IntKind.i64.wrap (a0_0 + (1 : Int))))].length + (a0_8.data.toList.map fun b => (b.toNat : Int)).length ≤ 140737488355328)) = true then if (decide (([(IntKind.u8.wrap (IntKind.i64.wrap (a0_0 + (1 : Int))))] ++ (a0_8.data.toList.map fun b => (b.toNat : Int))).length + [(0 : Int)].length ≤ 140737488355328)) = true then F37c13 k a1 (([(IntKind.u8.wrap (IntKind.i64.wrap (a0_0 + (1 : Int))))] ++ (a0_8.data.toList.map fun b => (b.toNat : Int))) ++ [(0 : Int)]) else none else none else F37c13 k a1 [(IntKind.u8.wrap (IntKind.i64.wrap (a0_0 + (1 : Int))))] := by kernel_rfl
theorem F37c13_eq (k : Nat) (x1 : Bool) (x5 : List Int) : F37c13 (k + 1) x1 x5 =
    if x1 = true then (F39 k x5).bind fun r6 => some ((r6.1.1, ()), (((), (), (), (), (), (), (), (), (), ()), (), ())) else some ((x5, ()), (((), (), (), (), (), (), (), (), (), ()), (), ())) := by kernel_rfl
theorem F38_eq (k : Nat) (a0 : ByteArray) (a1 : Bool) : F38 (k + 2) a0 a1 =
    if ((a0.size : Int) == (0 : Int)) = true then some ((((0 : Int), false, false, ([] : List Int), (0 : Int), (0 : Int), (0 : Int), (0 : Int), ByteArray.empty, ()), (-1 : Int), ()), ((), (), ())) else if a1 = true then (F88 k a0).bind fun r1 => F38c5 k r1.1.1 (0 : Int) false false ([] : List Int) (0 : Int) (0 : Int) (0 : Int) (0 : Int) ByteArray.empty else F38c5 k a0 (0 : Int) false false ([] : List Int) (0 : Int) (0 : Int) (0 : Int) (0 : Int) ByteArray.empty := by kernel_rfl
theorem F38c5_eq (k : Nat) (x0 : ByteArray) (x4_0 : Int) (x4_1 : Bool) (x4_2 : Bool) (x4_3 : List Int) (x4_4 : Int) (x4_5 : Int) (x4_6 : Int) (x4_7 : Int) (x4_8 : ByteArray) : F38c5 (k + 1) x0 x4_0 x4_1 x4_2 x4_3 x4_4 x4_5 x4_6 x4_7 x4_8 =
    (F89 k x0).bind fun r2 => some (((r2.1.1.1, r2.1.1.2.1, r2.1.1.2.2.1, r2.1.1.2.2.2.1, r2.1.1.2.2.2.2.1, r2.1.1.2.2.2.2.2.1, r2.1.1.2.2.2.2.2.2.1, r2.1.1.2.2.2.2.2.2.2.1, r2.1.1.2.2.2.2.2.2.2.2.1, ()), r2.1.2.1, ()), ((), (), ())) := by kernel_rfl
theorem F39_eq (k : Nat) (a0 : List Int) : F39 (k + 2) a0 =
    if (decide (0 ≤ (a0.length : Int)) && decide ((a0.length : Int) ≤ (a0.length : Int)) && decide ((a0.length : Int) ≤ (140737488355328 : Int))) = true then F39c3 k (List.replicate (a0.length : Int).toNat (0 : Int)) a0 (a0.length : Int) (0 : Int) else none := by kernel_rfl
theorem F39c3_eq (k : Nat) (x3 : List Int) (x9 : List Int) (x10 : Int) (x11 : Int) : F39c3 (k + 1) x3 x9 x10 x11 =
    if (decide (x11 < x10)) = true then if (decide (0 ≤ x11)) = true then (x9[x11.toNat]?).bind fun y1 => if (decide (0 ≤ x11) && decide (x11 < (x3.length : Int))) = true then (x3[x11.toNat]?).bind fun y2 => F39c3 k (x3.set x11.toNat (IntKind.u8.wrap ((255 : Int) - y1))) x9 x10 (IntKind.i64.wrap (x11 + (1 : Int))) else none else none else some ((x3, ()), ((), ())) := by kernel_rfl
theorem F40_eq (k : Nat) (a0 : Int) (a1 : Int) (a2 : Int) : F40 (k + 2) a0 a1 a2 =
    if (decide (a0 ≥ a1)) = true then some ((decide (a0 ≤ a2), ()), ((), (), (), ())) else some ((false, ()), ((), (), (), ())) := by kernel_rfl
theorem F41_eq (k : Nat) (a0 : List Int) : F41 (k + 2) a0 =
    if (decide ((a0.length : Int) < (2 : Int))) = true then some (((false, ([] : List Int), (0 : Int), ()), ()), ((), ())) else (a0[0]?).bind fun y1 => if (y1 != (127 : Int)) = true then (a0[0]?).bind fun y2 => if (y2 != (129 : Int)) = true then some (((false, ([] : List Int), (0 : Int), ()), ()), ((), ())) else if (decide (0 ≤ (1 : Int)) && decide ((1 : Int) ≤ (a0.length : Int))) = true then (a0[0]?).bind fun y3 => if (y3 == (127 : Int)) = true then (F39 k (slices a0 1 a0.length)).bind fun r4 => F41c6 k a0 false ([] : List Int) (0 : Int) r4.1.1 else F41c6 k a0 false ([] : List Int) (0 : Int) (slices a0 1 a0.length) else none else if (decide (0 ≤ (1 : Int)) && decide ((1 : Int) ≤ (a0.length : Int))) = true then (a0[0]?).bind fun y5 => if (y5 == (127 : Int)) = true then (F39 k (slices a0 1 a0.length)).bind fun r6 => F41c6 k a0 false ([] : List Int) (0 : Int) r6.1.1 else F41c6 k a0 false ([] : List Int) (0 : Int) (slices a0 1 a0.length) else none := by kernel_rfl
theorem F41c6_eq (k : Nat) (x0 : List Int) (x2_0 : Bool) (x2_1 : List Int) (x2_2 : Int) (x3 : List Int) : F41c6 (k + 1) x0 x2_0 x2_1 x2_2 x3 =
    (x3[0]?).bind fun y7 => if (decide (0 ≤ (1 : Int)) && decide ((1 : Int) ≤ (x3.length : Int))) = true then F41c9 k x0 x2_0 x2_1 x2_2 (IntKind.i64.wrap ((IntKind.i64.wrap y7) - (64 : Int))) (⟨#[]⟩ : ByteArray) (slices x3 1 x3.length) ((slices x3 1 x3.length).length : Int) (0 : Int) else none := by kernel_rfl
theorem F41c9_eq (k : Nat) (x0 : List Int) (x2_0 : Bool) (x2_1 : List Int) (x2_2 : Int) (x4 : Int) (x5 : ByteArray) (x40 : List Int) (x41 : Int) (x42 : Int) : F41c9 (k + 1) x0 x2_0 x2_1 x2_2 x4 x5 x40 x41 x42 =
    if (decide (x42 < x41)) = true then if (decide (0 ≤ x42)) = true then (x40[x42.toNat]?).bind fun y8 => (F40 k (IntKind.i64.wrap y8) (1 : Int) (10 : Int)).bind fun r9 => if (!r9.1.1) = true then (F40 k x4 (-12 : Int) (30 : Int)).bind fun r10 => if (!r10.1.1) = true then some (((false, ([] : List Int), (0 : Int), ()), ()), ((), ())) else if (x5.toList == (⟨#[]⟩ : ByteArray).toList) = true then some (((false, ([] : List Int), (0 : Int), ()), ()), ((), ())) else (F90 k (⟨#[48]⟩ : ByteArray) (if (IntKind.i64.wrap (x4 - (x5.size : Int))) > (0 : Int) then (IntKind.i64.wrap (x4 - (x5.size : Int))) else (0 : Int))).bind fun r11 => if (Nat.ble (x5.size + r11.1.1.size) 9223372036854775807) = true then (x0[0]?).bind fun y12 => (F92 k (x5 ++ r11.1.1)).bind fun r13 => (F91 k (y12 == (127 : Int)) r13.1.1).bind fun r14 => some (((r14.1.1.1, r14.1.1.2.1, (IntKind.i64.wrap (((x5 ++ r11.1.1).size : Int) - x4)), ()), ()), ((), ())) else none else if (decide ((x5.size : Int) > (30 : Int))) = true then (F40 k x4 (-12 : Int) (30 : Int)).bind fun r15 => if (!r15.1.1) = true then some (((false, ([] : List Int), (0 : Int), ()), ()), ((), ())) else if (x5.toList == (⟨#[]⟩ : ByteArray).toList) = true then some (((false, ([] : List Int), (0 : Int), ()), ()), ((), ())) else (F90 k (⟨#[48]⟩ : ByteArray) (if (IntKind.i64.wrap (x4 - (x5.size : Int))) > (0 : Int) then (IntKind.i64.wrap (x4 - (x5.size : Int))) else (0 : Int))).bind fun r16 => if (Nat.ble (x5.size + r16.1.1.size) 9223372036854775807) = true then (x0[0]?).bind fun y17 => (F92 k (x5 ++ r16.1.1)).bind fun r18 => (F91 k (y17 == (127 : Int)) r18.1.1).bind fun r19 => some (((r19.1.1.1, r19.1.1.2.1, (IntKind.i64.wrap (((x5 ++ r16.1.1).size : Int) - x4)), ()), ()), ((), ())) else none else if (Nat.ble (x5.size + (Utf8.encode (IntKind.i32.wrap (IntKind.u8.wrap ((IntKind.u8.wrap ((48 : Int) + y8)) - (1 : Int))))).size) 9223372036854775807) = true then F41c9 k x0 x2_0 x2_1 x2_2 x4 (x5 ++ (Utf8.encode (IntKind.i32.wrap (IntKind.u8.wrap ((IntKind.u8.wrap ((48 : Int) + y8)) - (1 : Int)))))) x40 x41 (IntKind.i64.wrap (x42 + (1 : Int))) else none else none else (F40 k x4 (-12 : Int) (30 : Int)).bind fun r20 => if (!r20.1.1) = true then some (((false, ([] : List Int), (0 : Int), ()), ()), ((), ())) else if (x5.toList == (⟨#[]⟩ : ByteArray).toList) = true then some (((false, ([] : List Int), (0 : Int), ()), ()), ((), ())) else (F90 k (⟨#[48]⟩ : ByteArray) (if (IntKind.i64.wrap (x4 - (x5.size : Int))) > (0 : Int) then (IntKind.i64.wrap (x4 - (x5.size : Int))) else (0 : Int))).bind fun r21 => if (Nat.ble (x5.size + r21.1.1.size) 9223372036854775807) = true then (x0[0]?).bind fun y22 => (F92 k (x5 ++ r21.1.1)).bind fun r23 => (F91 k (y22 == (127 : Int)) r23.1.1).bind fun r24 => some (((r24.1.1.1, r24.1.1.2.1, (IntKind.i64.wrap (((x5 ++ r21.1.1).size : Int) - x4)), ()), ()), ((), ())) else none := by kernel_rfl
theorem F42_eq (k : Nat) (a0 : List Int) : F42 (k + 2) a0 =
    (a0[0]?).bind fun y1 => (a0[1]?).bind fun y2 => (a0[2]?).bind fun y3 => some (((IntKind.i64.wrap (((BitVec.ofInt IntKind.i64.bits (IntKind.i64.wrap (((BitVec.ofInt IntKind.i64.bits (IntKind.i64.wrap ((IntKind.i64.wrap y1) * 2 ^ min (16 : Int).toNat IntKind.i64.bits)) ||| BitVec.ofInt IntKind.i64.bits (IntKind.i64.wrap ((IntKind.i64.wrap y2) * 2 ^ min (8 : Int).toNat IntKind.i64.bits))).toNat : Int))) ||| BitVec.ofInt IntKind.i64.bits (IntKind.i64.wrap y3)).toNat : Int))), ()), ((), ())) := by kernel_rfl
theorem F43_eq (k : Nat) (a0 : ByteArray) (a1 : ByteArray) : F43 (k + 1) a0 a1 = cutR (a0, a1, ()) := by kernel_rfl
theorem F44_eq (k : Nat) (a0 : ByteArray) (a1 : ByteArray) : F44 (k + 2) a0 a1 =
    (F94 k a0 a1).bind fun r1 => some ((r1.1.1, ()), ((), (), ())) := by kernel_rfl
theorem F45_eq (k : Nat) (a0_0 : Bool) (a0_1 : List Int) (a0_2 : Int) (a1_0 : Bool) (a1_1 : List Int) (a1_2 : Int) : F45 (k + 2) a0_0 a0_1 a0_2 a1_0 a1_1 a1_2 =
    (F95 k a0_0 a0_1 a1_0 a1_1).bind fun r1 => if (!r1.1.1) = true then some ((false, ()), (((), (), (), ()), ((), (), (), ()), ())) else if (a0_2 != a1_2) = true then some ((false, ()), (((), (), (), ()), ((), (), (), ()), ())) else some ((true, ()), (((), (), (), ()), ((), (), (), ()), ())) := by kernel_rfl
theorem F46_eq (k : Nat) (a0_0 : Int) (a0_1 : Int) (a1_0 : Int) (a1_1 : Int) : F46 (k + 2) a0_0 a0_1 a1_0 a1_1 =
    if (a0_0 != a1_0) = true then some ((false, ()), (((), (), ()), ((), (), ()), ())) else if (a0_1 != a1_1) = true then some ((false, ()), (((), (), ()), ((), (), ()), ())) else some ((true, ()), (((), (), ()), ((), (), ()), ())) := by kernel_rfl
theorem F47_eq (k : Nat) (a0_0 : Bool) (a0_1 : List Int) (a0_2 : Int) (a1 : Int) : F47 (k + 2) a0_0 a0_1 a0_2 a1 =
    (F96 k a0_0 a0_1 a1).bind fun r1 => some ((r1.1.1, ()), (((), r1.2.1.2.1, (), ()), (), ())) := by kernel_rfl
theorem F48_eq (k : Nat) (a0_0 : Bool) (a0_1 : List Int) (a0_2 : Int) (a1 : Int) : F48 (k + 2) a0_0 a0_1 a0_2 a1 =
    (F97 k a0_0 a0_1 a1).bind fun r1 => if (decide (r1.1.1 < (0 : Int))) = true then some (((-1 : Int), ()), (((), (), (), ()), (), ())) else some ((r1.1.1, ()), (((), (), (), ()), (), ())) := by kernel_rfl
theorem F65_eq (k : Nat) (a0_0 : Bool) (a0_1 : List Int) (a0_2 : Int) (a1 : Int) : F65 (k + 2) a0_0 a0_1 a0_2 a1 =
    (F107 k a0_0 a0_1 a1).bind fun r1 => if (decide (r1.1.1 < (0 : Int))) = true then some (((-1 : Int), ()), (((), (), (), ()), (), ())) else some ((r1.1.1, ()), (((), (), (), ()), (), ())) := by kernel_rfl
theorem F66_eq (k : Nat) (a0_0 : Int) (a0_1 : Bool) (a0_2 : Bool) (a0_3 : List Int) (a0_4 : Int) (a0_5 : Int) (a0_6 : Int) (a0_7 : Int) (a0_8 : ByteArray) (a1 : Bool) : F66 (k + 2) a0_0 a0_1 a0_2 a0_3 a0_4 a0_5 a0_6 a0_7 a0_8 a1 =
    (F108 k a0_0 a0_1 a0_2 a0_3 a0_4 a0_5 a0_6 a0_7 a0_8).bind fun r1 => if (Nat.ble ((bytesOf [(IntKind.u8.wrap (IntKind.i64.wrap (a0_0 + (1 : Int))))]).size + r1.1.1.size) 9223372036854775807) = true then if a1 = true then (F88 k ((bytesOf [(IntKind.u8.wrap (IntKind.i64.wrap (a0_0 + (1 : Int))))]) ++ r1.1.1)).bind fun r2 => some ((r2.1.1, ()), (((), (), (), (), (), (), (), (), (), ()), (), ())) else some ((((bytesOf [(IntKind.u8.wrap (IntKind.i64.wrap (a0_0 + (1 : Int))))]) ++ r1.1.1), ()), (((), (), (), (), (), (), (), (), (), ()), (), ())) else none := by kernel_rfl
theorem F67_eq (k : Nat) (a0_0 : Bool) (a0_1 : List Int) (a0_2 : Int) : F67 (k + 2) a0_0 a0_1 a0_2 =
    (F109 k a0_0 a0_1).bind fun r1 => some (((r1.1.1.1, r1.1.1.2.1, a0_2, ()), ()), (((), (), (), ()), ())) := by kernel_rfl
theorem F68_eq (k : Nat) (a0_0 : Int) (a0_1 : Int) : F68 (k + 2) a0_0 a0_1 =
    some (((a0_0, a0_1, ()), ()), (((), (), ()), ())) := by kernel_rfl
theorem F71_eq (k : Nat) (a0_0 : Bool) (a0_1 : List Int) (a0_2 : Int) : F71 (k + 2) a0_0 a0_1 a0_2 =
    (F116 k a0_0 a0_1).bind fun r1 => if r1.1.1 = true then (F117 k a0_1).bind fun r2 => if (decide (r2.1.1 ≤ (30 : Int))) = true then (F40 k a0_2 (0 : Int) (12 : Int)).bind fun r3 => some ((r3.1.1, ()), (((), (), (), ()), ())) else some ((false, ()), (((), (), (), ()), ())) else some ((false, ()), (((), (), (), ()), ())) := by kernel_rfl
theorem F72_eq (k : Nat) (a0 : Int) : F72 (k + 2) a0 =
    (F40 k a0 (1 : Int) (3652059 : Int)).bind fun r1 => some ((r1.1.1, ()), ((), ())) := by kernel_rfl
theorem F73_eq (k : Nat) (a0_0 : Int) (a0_1 : Int) : F73 (k + 2) a0_0 a0_1 =
    (F40 k a0_0 (-120000 : Int) (120000 : Int)).bind fun r1 => if r1.1.1 = true then (F40 k a0_1 (-4000000 : Int) (4000000 : Int)).bind fun r2 => some ((r2.1.1, ()), (((), (), ()), ())) else some ((false, ()), (((), (), ()), ())) := by kernel_rfl
theorem F74_eq (k : Nat) (a0_0 : Bool) (a0_1 : List Int) (a0_2 : Int) : F74 (k + 2) a0_0 a0_1 a0_2 =
    if (!a0_0) = true then if ((a0_1.length : Int) == (0 : Int)) = true then some (((a0_2 == (0 : Int)), ()), (((), (), (), ()), ())) else some ((false, ()), (((), (), (), ()), ())) else some ((false, ()), (((), (), (), ()), ())) := by kernel_rfl
theorem F77_eq (k : Nat) (a0 : Int) (a1 : Int) (a2 : Int) : F77 (k + 2) a0 a1 a2 =
    if (decide (a0 ≥ a1)) = true then some ((decide (a0 ≤ a2), ()), ((), (), (), ())) else some ((false, ()), ((), (), (), ())) := by kernel_rfl
theorem F78_eq (k : Nat) (a0_0 : Int) (a0_1 : Bool) (a0_2 : Bool) (a0_3 : List Int) (a0_4 : Int) (a0_5 : Int) (a0_6 : Int) (a0_7 : Int) (a0_8 : ByteArray) : F78 (k + 2) a0_0 a0_1 a0_2 a0_3 a0_4 a0_5 a0_6 a0_7 a0_8 =
    if (a0_0 != (1 : Int)) = true then if a0_1 = true then some ((false, ()), (((), (), (), (), (), (), (), (), (), ()), ())) else if (a0_0 != (2 : Int)) = true then (F122 k a0_2 a0_3 a0_4).bind fun r1 => if (!r1.1.1) = true then some ((false, ()), (((), (), (), (), (), (), (), (), (), ()), ())) else if (a0_0 != (4 : Int)) = true then if (a0_6 != (0 : Int)) = true then some ((false, ()), (((), (), (), (), (), (), (), (), (), ()), ())) else if (a0_7 != (0 : Int)) = true then some ((false, ()), (((), (), (), (), (), (), (), (), (), ()), ())) else if (a0_0 == (3 : Int)) = true then if (a0_0 == (5 : Int)) = true then some ((true, ()), (((), (), (), (), (), (), (), (), (), ()), ())) else some (((a0_8.toList == (⟨#[]⟩ : ByteArray).toList), ()), (((), (), (), (), (), (), (), (), (), ()), ())) else if (a0_5 == (0 : Int)) = true then if (a0_0 == (5 : Int)) = true then some ((true, ()), (((), (), (), (), (), (), (), (), (), ()), ())) else some (((a0_8.toList == (⟨#[]⟩ : ByteArray).toList), ()), (((), (), (), (), (), (), (), (), (), ()), ())) else some ((false, ()), (((), (), (), (), (), (), (), (), (), ()), ())) else if (a0_0 == (3 : Int)) = true then if (a0_0 == (5 : Int)) = true then some ((true, ()), (((), (), (), (), (), (), (), (), (), ()), ())) else some (((a0_8.toList == (⟨#[]⟩ : ByteArray).toList), ()), (((), (), (), (), (), (), (), (), (), ()), ())) else if (a0_5 == (0 : Int)) = true then if (a0_0 == (5 : Int)) = true then some ((true, ()), (((), (), (), (), (), (), (), (), (), ()), ())) else some (((a0_8.toList == (⟨#[]⟩ : ByteArray).toList), ()), (((), (), (), (), (), (), (), (), (), ()), ())) else some ((false, ()), (((), (), (), (), (), (), (), (), (), ()), ())) else if (a0_0 != (4 : Int)) = true then if (a0_6 != (0 : Int)) = true then some ((false, ()), (((), (), (), (), (), (), (), (), (), ()), ())) else if (a0_7 != (0 : Int)) = true then some ((false, ()), (((), (), (), (), (), (), (), (), (), ()), ())) else if (a0_0 == (3 : Int)) = true then if (a0_0 == (5 : Int)) = true then some ((true, ()), (((), (), (), (), (), (), (), (), (), ()), ())) else some (((a0_8.toList == (⟨#[]⟩ : ByteArray).toList), ()), (((), (), (), (), (), (), (), (), (), ()), ())) else if (a0_5 == (0 : Int)) = true then if (a0_0 == (5 : Int)) = true then some ((true, ()), (((), (), (), (), (), (), (), (), (), ()), ())) else some (((a0_8.toList == (⟨#[]⟩ : ByteArray).toList), ()), (((), (), (), (), (), (), (), (), (), ()), ())) else some ((false, ()), (((), (), (), (), (), (), (), (), (), ()), ())) else if (a0_0 == (3 : Int)) = true then if (a0_0 == (5 : Int)) = true then some ((true, ()), (((), (), (), (), (), (), (), (), (), ()), ())) else some (((a0_8.toList == (⟨#[]⟩ : ByteArray).toList), ()), (((), (), (), (), (), (), (), (), (), ()), ())) else if (a0_5 == (0 : Int)) = true then if (a0_0 == (5 : Int)) = true then some ((true, ()), (((), (), (), (), (), (), (), (), (), ()), ())) else some (((a0_8.toList == (⟨#[]⟩ : ByteArray).toList), ()), (((), (), (), (), (), (), (), (), (), ()), ())) else some ((false, ()), (((), (), (), (), (), (), (), (), (), ()), ())) else if (a0_0 != (2 : Int)) = true then (F122 k a0_2 a0_3 a0_4).bind fun r2 => if (!r2.1.1) = true then some ((false, ()), (((), (), (), (), (), (), (), (), (), ()), ())) else if (a0_0 != (4 : Int)) = true then if (a0_6 != (0 : Int)) = true then some ((false, ()), (((), (), (), (), (), (), (), (), (), ()), ())) else if (a0_7 != (0 : Int)) = true then some ((false, ()), (((), (), (), (), (), (), (), (), (), ()), ())) else if (a0_0 == (3 : Int)) = true then if (a0_0 == (5 : Int)) = true then some ((true, ()), (((), (), (), (), (), (), (), (), (), ()), ())) else some (((a0_8.toList == (⟨#[]⟩ : ByteArray).toList), ()), (((), (), (), (), (), (), (), (), (), ()), ())) else if (a0_5 == (0 : Int)) = true then if (a0_0 == (5 : Int)) = true then some ((true, ()), (((), (), (), (), (), (), (), (), (), ()), ())) else some (((a0_8.toList == (⟨#[]⟩ : ByteArray).toList), ()), (((), (), (), (), (), (), (), (), (), ()), ())) else some ((false, ()), (((), (), (), (), (), (), (), (), (), ()), ())) else if (a0_0 == (3 : Int)) = true then if (a0_0 == (5 : Int)) = true then some ((true, ()), (((), (), (), (), (), (), (), (), (), ()), ())) else some (((a0_8.toList == (⟨#[]⟩ : ByteArray).toList), ()), (((), (), (), (), (), (), (), (), (), ()), ())) else if (a0_5 == (0 : Int)) = true then if (a0_0 == (5 : Int)) = true then some ((true, ()), (((), (), (), (), (), (), (), (), (), ()), ())) else some (((a0_8.toList == (⟨#[]⟩ : ByteArray).toList), ()), (((), (), (), (), (), (), (), (), (), ()), ())) else some ((false, ()), (((), (), (), (), (), (), (), (), (), ()), ())) else if (a0_0 != (4 : Int)) = true then if (a0_6 != (0 : Int)) = true then some ((false, ()), (((), (), (), (), (), (), (), (), (), ()), ())) else if (a0_7 != (0 : Int)) = true then some ((false, ()), (((), (), (), (), (), (), (), (), (), ()), ())) else if (a0_0 == (3 : Int)) = true then if (a0_0 == (5 : Int)) = true then some ((true, ()), (((), (), (), (), (), (), (), (), (), ()), ())) else some (((a0_8.toList == (⟨#[]⟩ : ByteArray).toList), ()), (((), (), (), (), (), (), (), (), (), ()), ())) else if (a0_5 == (0 : Int)) = true then if (a0_0 == (5 : Int)) = true then some ((true, ()), (((), (), (), (), (), (), (), (), (), ()), ())) else some (((a0_8.toList == (⟨#[]⟩ : ByteArray).toList), ()), (((), (), (), (), (), (), (), (), (), ()), ())) else some ((false, ()), (((), (), (), (), (), (), (), (), (), ()), ())) else if (a0_0 == (3 : Int)) = true then if (a0_0 == (5 : Int)) = true then some ((true, ()), (((), (), (), (), (), (), (), (), (), ()), ())) else some (((a0_8.toList == (⟨#[]⟩ : ByteArray).toList), ()), (((), (), (), (), (), (), (), (), (), ()), ())) else if (a0_5 == (0 : Int)) = true then if (a0_0 == (5 : Int)) = true then some ((true, ()), (((), (), (), (), (), (), (), (), (), ()), ())) else some (((a0_8.toList == (⟨#[]⟩ : ByteArray).toList), ()), (((), (), (), (), (), (), (), (), (), ()), ())) else some ((false, ()), (((), (), (), (), (), (), (), (), (), ()), ())) := by kernel_rfl
theorem F79_eq (k : Nat) (a0_0 : Bool) (a0_1 : List Int) (a0_2 : Int) : F79 (k + 2) a0_0 a0_1 a0_2 =
    (F123 k a0_0 a0_1).bind fun r1 => if r1.1.1 = true then (F124 k a0_1).bind fun r2 => if (decide (r2.1.1 ≤ (30 : Int))) = true then (F77 k a0_2 (0 : Int) (12 : Int)).bind fun r3 => some ((r3.1.1, ()), (((), (), (), ()), ())) else some ((false, ()), (((), (), (), ()), ())) else some ((false, ()), (((), (), (), ()), ())) := by kernel_rfl
theorem F80_eq (k : Nat) (a0 : Int) : F80 (k + 2) a0 =
    (F77 k a0 (1 : Int) (3652059 : Int)).bind fun r1 => some ((r1.1.1, ()), ((), ())) := by kernel_rfl
theorem F81_eq (k : Nat) (a0_0 : Int) (a0_1 : Int) : F81 (k + 2) a0_0 a0_1 =
    (F77 k a0_0 (-120000 : Int) (120000 : Int)).bind fun r1 => if r1.1.1 = true then (F77 k a0_1 (-4000000 : Int) (4000000 : Int)).bind fun r2 => some ((r2.1.1, ()), (((), (), ()), ())) else some ((false, ()), (((), (), ()), ())) := by kernel_rfl
theorem F82_eq (k : Nat) (a0 : ByteArray) : F82 (k + 2) a0 =
    F82c2 k a0 (0 : Int) := by kernel_rfl
theorem F82c2_eq (k : Nat) (x0 : ByteArray) (x3 : Int) : F82c2 (k + 1) x0 x3 =
    if (decide (x3 < (x0.size : Int))) = true then if (decide (0 ≤ x3)) = true then (x0[x3.toNat]?).bind fun u1 => if (decide ((u1.toNat : Int) < (32 : Int))) = true then some ((false, ()), ((), ())) else if (decide (0 ≤ x3)) = true then (x0[x3.toNat]?).bind fun u2 => if (decide ((u2.toNat : Int) > (126 : Int))) = true then some ((false, ()), ((), ())) else F82c2 k x0 (IntKind.i64.wrap (x3 + (1 : Int))) else none else none else some ((decide ((x0.size : Int) ≤ (12 : Int)), ()), ((), ())) := by kernel_rfl
theorem F85_eq (k : Nat) (a0 : Bool) : F85 (k + 2) a0 =
    if a0 = true then some (((1 : Int), ()), ((), ())) else some (((0 : Int), ()), ((), ())) := by kernel_rfl
theorem F86_eq (k : Nat) (a0_0 : Bool) (a0_1 : List Int) (a0_2 : Int) : F86 (k + 2) a0_0 a0_1 a0_2 =
    (F128 k a0_0 a0_1 a0_2).bind fun r1 => if ((r1.1.1.2.1.length : Int) == (0 : Int)) = true then some (([(128 : Int)], ()), (((), (), (), ()), ())) else (F129 k r1.1.1.2.1).bind fun r2 => (F130 k r2.1.1 (⟨#[48]⟩ : ByteArray)).bind fun r3 => F86c7 k r1.1.1.1 r1.1.1.2.1 r1.1.1.2.2.1 [(IntKind.u8.wrap (IntKind.i64.wrap ((IntKind.i64.wrap ((64 : Int) + (r2.1.1.size : Int))) - r1.1.1.2.2.1)))] (r3.1.1.data.toList.map fun b => (b.toNat : Int)) ((r3.1.1.data.toList.map fun b => (b.toNat : Int)).length : Int) (0 : Int) := by kernel_rfl
theorem F86c7_eq (k : Nat) (x1_0 : Bool) (x1_1 : List Int) (x1_2 : Int) (x4 : List Int) (x29 : List Int) (x30 : Int) (x31 : Int) : F86c7 (k + 1) x1_0 x1_1 x1_2 x4 x29 x30 x31 =
    if (decide (x31 < x30)) = true then if (decide (0 ≤ x31)) = true then (x29[x31.toNat]?).bind fun y4 => if (decide (x4.length + [(IntKind.u8.wrap ((IntKind.u8.wrap (y4 - (48 : Int))) + (1 : Int)))].length ≤ 140737488355328)) = true then F86c7 k x1_0 x1_1 x1_2 (x4 ++ [(IntKind.u8.wrap ((IntKind.u8.wrap (y4 - (48 : Int))) + (1 : Int)))]) x29 x30 (IntKind.i64.wrap (x31 + (1 : Int))) else none else none else if (decide (x4.length + [(0 : Int)].length ≤ 140737488355328)) = true then if x1_0 = true then (F39 k (x4 ++ [(0 : Int)])).bind fun r5 => if (decide ([(127 : Int)].length + r5.1.1.length ≤ 140737488355328)) = true then some ((([(127 : Int)] ++ r5.1.1), ()), (((), (), (), ()), ())) else none else if (decide ([(129 : Int)].length + (x4 ++ [(0 : Int)]).length ≤ 140737488355328)) = true then some ((([(129 : Int)] ++ (x4 ++ [(0 : Int)])), ()), (((), (), (), ()), ())) else none else none := by kernel_rfl
theorem F87_eq (k : Nat) (a0 : Int) : F87 (k + 2) a0 =
    some (([(IntKind.u8.wrap (a0.fdiv (2 ^ min (16 : Int).toNat IntKind.i64.bits))), (IntKind.u8.wrap (a0.fdiv (2 ^ min (8 : Int).toNat IntKind.i64.bits))), (IntKind.u8.wrap a0)], ()), ((), ())) := by kernel_rfl
theorem F88_eq (k : Nat) (a0 : ByteArray) : F88 (k + 2) a0 =
    if (decide (0 ≤ (a0.size : Int)) && decide ((a0.size : Int) ≤ (a0.size : Int)) && decide ((a0.size : Int) ≤ (140737488355328 : Int))) = true then F88c3 k a0 (List.replicate (a0.size : Int).toNat (0 : Int)) (0 : Int) else none := by kernel_rfl
theorem F88c3_eq (k : Nat) (x0 : ByteArray) (x3 : List Int) (x4 : Int) : F88c3 (k + 1) x0 x3 x4 =
    if (decide (x4 < (x0.size : Int))) = true then if (decide (0 ≤ x4)) = true then (x0[x4.toNat]?).bind fun u1 => if (decide (0 ≤ x4) && decide (x4 < (x3.length : Int))) = true then (x3[x4.toNat]?).bind fun y2 => F88c3 k x0 (x3.set x4.toNat (IntKind.u8.wrap ((255 : Int) - (u1.toNat : Int)))) (IntKind.i64.wrap (x4 + (1 : Int))) else none else none else some (((bytesOf x3), ()), ((), ())) := by kernel_rfl
theorem F89_eq (k : Nat) (a0 : ByteArray) : F89 (k + 2) a0 =
    (a0[0]?).bind fun u1 => if ((IntKind.i64.wrap ((IntKind.i64.wrap (u1.toNat : Int)) - (1 : Int))) == (0 : Int)) = true then some ((((0 : Int), false, false, ([] : List Int), (0 : Int), (0 : Int), (0 : Int), (0 : Int), ByteArray.empty, ()), (1 : Int), ()), ((), ())) else if ((IntKind.i64.wrap ((IntKind.i64.wrap (u1.toNat : Int)) - (1 : Int))) == (1 : Int)) = true then if (decide ((a0.size : Int) > (1 : Int))) = true then (a0[1]?).bind fun u2 => if (decide ((u2.toNat : Int) < (2 : Int))) = true then (a0[1]?).bind fun u3 => some ((((1 : Int), ((u3.toNat : Int) == (1 : Int)), false, ([] : List Int), (0 : Int), (0 : Int), (0 : Int), (0 : Int), ByteArray.empty, ()), (2 : Int), ()), ((), ())) else F89c24 k (0 : Int) false false ([] : List Int) (0 : Int) (0 : Int) (0 : Int) (0 : Int) ByteArray.empty (0 : Int) false false ([] : List Int) (0 : Int) (0 : Int) (0 : Int) (0 : Int) ByteArray.empty else F89c24 k (0 : Int) false false ([] : List Int) (0 : Int) (0 : Int) (0 : Int) (0 : Int) ByteArray.empty (0 : Int) false false ([] : List Int) (0 : Int) (0 : Int) (0 : Int) (0 : Int) ByteArray.empty else if ((IntKind.i64.wrap ((IntKind.i64.wrap (u1.toNat : Int)) - (1 : Int))) == (2 : Int)) = true then (F131 k a0 (1 : Int)).bind fun r4 => if (decide (r4.1.2.1 > (0 : Int))) = true then (F111 k r4.1.1.1 r4.1.1.2.1 r4.1.1.2.2.1).bind fun r5 => some (((r5.1.1.1, r5.1.1.2.1, r5.1.1.2.2.1, r5.1.1.2.2.2.1, r5.1.1.2.2.2.2.1, r5.1.1.2.2.2.2.2.1, r5.1.1.2.2.2.2.2.2.1, r5.1.1.2.2.2.2.2.2.2.1, r5.1.1.2.2.2.2.2.2.2.2.1, ()), r4.1.2.1, ()), ((), ())) else F89c24 k (0 : Int) false false ([] : List Int) (0 : Int) (0 : Int) (0 : Int) (0 : Int) ByteArray.empty (0 : Int) false false ([] : List Int) (0 : Int) (0 : Int) (0 : Int) (0 : Int) ByteArray.empty else if ((IntKind.i64.wrap ((IntKind.i64.wrap (u1.toNat : Int)) - (1 : Int))) == (3 : Int)) = true then if (decide ((a0.size : Int) > (3 : Int))) = true then (F132 k a0 (1 : Int)).bind fun r6 => (F80 k r6.1.1).bind fun r7 => if r7.1.1 = true then (F132 k a0 (1 : Int)).bind fun r8 => some ((((3 : Int), false, false, ([] : List Int), (0 : Int), r8.1.1, (0 : Int), (0 : Int), ByteArray.empty, ()), (4 : Int), ()), ((), ())) else F89c24 k (0 : Int) false false ([] : List Int) (0 : Int) (0 : Int) (0 : Int) (0 : Int) ByteArray.empty (0 : Int) false false ([] : List Int) (0 : Int) (0 : Int) (0 : Int) (0 : Int) ByteArray.empty else F89c24 k (0 : Int) false false ([] : List Int) (0 : Int) (0 : Int) (0 : Int) (0 : Int) ByteArray.empty (0 : Int) false false ([] : List Int) (0 : Int) (0 : Int) (0 : Int) (0 : Int) ByteArray.empty else if ((IntKind.i64.wrap ((IntKind.i64.wrap (u1.toNat : Int)) - (1 : Int))) == (4 : Int)) = true then if (decide ((a0.size : Int) > (6 : Int))) = true then (F132 k a0 (1 : Int)).bind fun r9 => (F132 k a0 (4 : Int)).bind fun r10 => (F81 k (IntKind.i64.wrap (r9.1.1 - (120000 : Int))) (IntKind.i64.wrap (r10.1.1 - (4000000 : Int)))).bind fun r11 => if r11.1.1 = true then some ((((4 : Int), false, false, ([] : List Int), (0 : Int), (0 : Int), (IntKind.i64.wrap (r9.1.1 - (120000 : Int))), (IntKind.i64.wrap (r10.1.1 - (4000000 : Int))), ByteArray.empty, ()), (7 : Int), ()), ((), ())) else F89c24 k (0 : Int) false false ([] : List Int) (0 : Int) (0 : Int) (0 : Int) (0 : Int) ByteArray.empty (0 : Int) false false ([] : List Int) (0 : Int) (0 : Int) (0 : Int) (0 : Int) ByteArray.empty else F89c24 k (0 : Int) false false ([] : List Int) (0 : Int) (0 : Int) (0 : Int) (0 : Int) ByteArray.empty (0 : Int) false false ([] : List Int) (0 : Int) (0 : Int) (0 : Int) (0 : Int) ByteArray.empty else if ((IntKind.i64.wrap ((IntKind.i64.wrap (u1.toNat : Int)) - (1 : Int))) == (5 : Int)) = true then (F133 k a0 (1 : Int)).bind fun r12 => if (decide (r12.1.1 > (0 : Int))) = true then if (decide (0 ≤ (1 : Int)) && decide ((1 : Int) ≤ r12.1.1) && decide (r12.1.1 ≤ (a0.size : Int))) = true then (F82 k (a0.extract 1 r12.1.1.toNat)).bind fun r13 => if r13.1.1 = true then if (decide (0 ≤ (1 : Int)) && decide ((1 : Int) ≤ r12.1.1) && decide (r12.1.1 ≤ (a0.size : Int))) = true then some ((((5 : Int), false, false, ([] : List Int), (0 : Int), (0 : Int), (0 : Int), (0 : Int), a0.extract 1 r12.1.1.toNat, ()), (IntKind.i64.wrap (r12.1.1 + (1 : Int))), ()), ((), ())) else none else F89c24 k (0 : Int) false false ([] : List Int) (0 : Int) (0 : Int) (0 : Int) (0 : Int) ByteArray.empty (0 : Int) false false ([] : List Int) (0 : Int) (0 : Int) (0 : Int) (0 : Int) ByteArray.empty else none else F89c24 k (0 : Int) false false ([] : List Int) (0 : Int) (0 : Int) (0 : Int) (0 : Int) ByteArray.empty (0 : Int) false false ([] : List Int) (0 : Int) (0 : Int) (0 : Int) (0 : Int) ByteArray.empty else F89c24 k (0 : Int) false false ([] : List Int) (0 : Int) (0 : Int) (0 : Int) (0 : Int) ByteArray.empty (0 : Int) false false ([] : List Int) (0 : Int) (0 : Int) (0 : Int) (0 : Int) ByteArray.empty := by kernel_rfl
theorem F89c24_eq (k : Nat) (x2_0 : Int) (x2_1 : Bool) (x2_2 : Bool) (x2_3 : List Int) (x2_4 : Int) (x2_5 : Int) (x2_6 : Int) (x2_7 : Int) (x2_8 : ByteArray) (x4_0 : Int) (x4_1 : Bool) (x4_2 : Bool) (x4_3 : List Int) (x4_4 : Int) (x4_5 : Int) (x4_6 : Int) (x4_7 : Int) (x4_8 : ByteArray) : F89c24 (k + 1) x2_0 x2_1 x2_2 x2_3 x2_4 x2_5 x2_6 x2_7 x2_8 x4_0 x4_1 x4_2 x4_3 x4_4 x4_5 x4_6 x4_7 x4_8 =
    some (((x4_0, x4_1, x4_2, x4_3, x4_4, x4_5, x4_6, x4_7, x4_8, ()), (-1 : Int), ()), ((), ())) := by kernel_rfl
theorem F90_eq (k : Nat) (a0 : ByteArray) (a1 : Int) : F90 (k + 1) a0 a1 = repeatR (a0, a1, ()) := by kernel_rfl
theorem F91_eq (k : Nat) (a0 : Bool) (a1 : List Int) : F91 (k + 2) a0 a1 =
    (F139 k a1).bind fun r1 => if (decide ((r1.1.1.length : Int) > (16 : Int))) = true then some (((false, ([] : List Int), ()), false, ()), ((), (), ())) else if a0 = true then (F140 k r1.1.1).bind fun r2 => some (((decide ((r1.1.1.length : Int) > (0 : Int)), r2.1.1, ()), true, ()), ((), (), ())) else (F140 k r1.1.1).bind fun r3 => some (((false, r3.1.1, ()), true, ()), ((), (), ())) := by kernel_rfl
theorem F92_eq (k : Nat) (a0 : ByteArray) : F92 (k + 2) a0 =
    F92c3 k a0 ([] : List Int) (a0.size : Int) := by kernel_rfl
theorem F92c3_eq (k : Nat) (x0 : ByteArray) (x3 : List Int) (x4 : Int) : F92c3 (k + 1) x0 x3 x4 =
    if (decide (x4 > (0 : Int))) = true then if (decide (0 ≤ (if (IntKind.i64.wrap (x4 - (4 : Int))) > (0 : Int) then (IntKind.i64.wrap (x4 - (4 : Int))) else (0 : Int))) && decide ((if (IntKind.i64.wrap (x4 - (4 : Int))) > (0 : Int) then (IntKind.i64.wrap (x4 - (4 : Int))) else (0 : Int)) ≤ x4) && decide (x4 ≤ (x0.size : Int))) = true then (F141 k (x0.extract ((if (IntKind.i64.wrap (x4 - (4 : Int))) > (0 : Int) then (IntKind.i64.wrap (x4 - (4 : Int))) else (0 : Int)).toNat) x4.toNat)).bind fun r1 => if (decide (x3.length + [r1.1.1].length ≤ 17592186044416)) = true then F92c3 k x0 (x3 ++ [r1.1.1]) (IntKind.i64.wrap (x4 - (4 : Int))) else none else none else (F139 k x3).bind fun r2 => some ((r2.1.1, ()), ((), ())) := by kernel_rfl
theorem F94_eq (k : Nat) (a0 : ByteArray) (a1 : ByteArray) : F94 (k + 2) a0 a1 =
    if (decide ((a0.size : Int) ≥ (a1.size : Int))) = true then if (decide (0 ≤ (a1.size : Int)) && decide ((a1.size : Int) ≤ (a0.size : Int))) = true then some ((((a0.extract 0 ((a1.size : Int).toNat)).toList == a1.toList), ()), ((), (), ())) else none else some ((false, ()), ((), (), ())) := by kernel_rfl
theorem F95_eq (k : Nat) (a0_0 : Bool) (a0_1 : List Int) (a1_0 : Bool) (a1_1 : List Int) : F95 (k + 2) a0_0 a0_1 a1_0 a1_1 =
    if (!(a0_0 == a1_0)) = true then some ((false, ()), (((), (), ()), ((), (), ()), ())) else (F143 k a0_1 a1_1).bind fun r1 => if (!r1.1.1) = true then some ((false, ()), (((), (), ()), ((), (), ()), ())) else some ((true, ()), (((), (), ()), ((), (), ()), ())) := by kernel_rfl
theorem F96_eq (k : Nat) (a0_0 : Bool) (a0_1 : List Int) (a1 : Int) : F96 (k + 2) a0_0 a0_1 a1 =
    (F144 k a0_1 a1).bind fun r1 => some ((r1.1.1, ()), (((), r1.2.1, ()), (), ())) := by kernel_rfl
theorem F97_eq (k : Nat) (a0_0 : Bool) (a0_1 : List Int) (a1 : Int) : F97 (k + 2) a0_0 a0_1 a1 =
    (F145 k a0_1 a1).bind fun r1 => if (decide (r1.1.1 < (0 : Int))) = true then some (((-1 : Int), ()), (((), (), ()), (), ())) else some ((r1.1.1, ()), (((), (), ()), (), ())) := by kernel_rfl
theorem F107_eq (k : Nat) (a0_0 : Bool) (a0_1 : List Int) (a1 : Int) : F107 (k + 2) a0_0 a0_1 a1 =
    (F149 k a0_1 a1).bind fun r1 => if (decide (r1.1.1 < (0 : Int))) = true then some (((-1 : Int), ()), (((), (), ()), (), ())) else some ((r1.1.1, ()), (((), (), ()), (), ())) := by kernel_rfl
theorem F108_eq (k : Nat) (a0_0 : Int) (a0_1 : Bool) (a0_2 : Bool) (a0_3 : List Int) (a0_4 : Int) (a0_5 : Int) (a0_6 : Int) (a0_7 : Int) (a0_8 : ByteArray) : F108 (k + 2) a0_0 a0_1 a0_2 a0_3 a0_4 a0_5 a0_6 a0_7 a0_8 =
    if (a0_0 == (1 : Int)) = true then (F125 k a0_1).bind fun r1 => some (((bytesOf [(IntKind.u8.wrap r1.1.1)]), ()), (((), (), (), (), (), (), (), (), (), ()), ())) else if (a0_0 == (2 : Int)) = true then (F150 k a0_2 a0_3 a0_4).bind fun r2 => some ((r2.1.1, ()), (((), (), (), (), (), (), (), (), (), ()), ())) else if (a0_0 == (3 : Int)) = true then (F151 k a0_5).bind fun r3 => some ((r3.1.1, ()), (((), (), (), (), (), (), (), (), (), ()), ())) else if (a0_0 == (4 : Int)) = true then (F151 k (IntKind.i64.wrap (a0_6 + (120000 : Int)))).bind fun r4 => (F151 k (IntKind.i64.wrap (a0_7 + (4000000 : Int)))).bind fun r5 => if (Nat.ble (r4.1.1.size + r5.1.1.size) 9223372036854775807) = true then some (((r4.1.1 ++ r5.1.1), ()), (((), (), (), (), (), (), (), (), (), ()), ())) else none else if (a0_0 == (5 : Int)) = true then if (Nat.ble (a0_8.size + (⟨#[0]⟩ : ByteArray).size) 9223372036854775807) = true then some (((a0_8 ++ (⟨#[0]⟩ : ByteArray)), ()), (((), (), (), (), (), (), (), (), (), ()), ())) else none else some (((⟨#[]⟩ : ByteArray), ()), (((), (), (), (), (), (), (), (), (), ()), ())) := by kernel_rfl
theorem F109_eq (k : Nat) (a0_0 : Bool) (a0_1 : List Int) : F109 (k + 2) a0_0 a0_1 =
    (F152 k a0_1).bind fun r1 => some (((a0_0, r1.1.1, ()), ()), (((), (), ()), ())) := by kernel_rfl
theorem F111_eq (k : Nat) (a0_0 : Bool) (a0_1 : List Int) (a0_2 : Int) : F111 (k + 2) a0_0 a0_1 a0_2 =
    some ((((2 : Int), false, a0_0, a0_1, a0_2, (0 : Int), (0 : Int), (0 : Int), ByteArray.empty, ()), ()), (((), (), (), ()), ())) := by kernel_rfl
theorem F116_eq (k : Nat) (a0_0 : Bool) (a0_1 : List Int) : F116 (k + 2) a0_0 a0_1 =
    if (decide ((a0_1.length : Int) ≤ (16 : Int))) = true then if ((a0_1.length : Int) == (0 : Int)) = true then if (!a0_0) = true then (F156058 k a0_1).bind fun r1 => some (((!r1.1.1), ()), (((), (), ()), ())) else if (decide ((a0_1.length : Int) > (0 : Int))) = true then if (decide (0 ≤ (IntKind.i64.wrap ((a0_1.length : Int) - (1 : Int))))) = true then (a0_1[(IntKind.i64.wrap ((a0_1.length : Int) - (1 : Int))).toNat]?).bind fun y2 => if (y2 != (0 : Int)) = true then (F156058 k a0_1).bind fun r3 => some (((!r3.1.1), ()), (((), (), ()), ())) else some ((false, ()), (((), (), ()), ())) else none else some ((false, ()), (((), (), ()), ())) else if (decide ((a0_1.length : Int) > (0 : Int))) = true then if (decide (0 ≤ (IntKind.i64.wrap ((a0_1.length : Int) - (1 : Int))))) = true then (a0_1[(IntKind.i64.wrap ((a0_1.length : Int) - (1 : Int))).toNat]?).bind fun y4 => if (y4 != (0 : Int)) = true then (F156058 k a0_1).bind fun r5 => some (((!r5.1.1), ()), (((), (), ()), ())) else some ((false, ()), (((), (), ()), ())) else none else some ((false, ()), (((), (), ()), ())) else some ((false, ()), (((), (), ()), ())) := by kernel_rfl
theorem F117_eq (k : Nat) (a0 : List Int) : F117 (k + 2) a0 =
    if ((a0.length : Int) == (0 : Int)) = true then some (((0 : Int), ()), ((), ())) else (F129 k a0).bind fun r1 => some (((r1.1.1.size : Int), ()), ((), ())) := by kernel_rfl
theorem F122_eq (k : Nat) (a0_0 : Bool) (a0_1 : List Int) (a0_2 : Int) : F122 (k + 2) a0_0 a0_1 a0_2 =
    if (!a0_0) = true then if ((a0_1.length : Int) == (0 : Int)) = true then some (((a0_2 == (0 : Int)), ()), (((), (), (), ()), ())) else some ((false, ()), (((), (), (), ()), ())) else some ((false, ()), (((), (), (), ()), ())) := by kernel_rfl
theorem F123_eq (k : Nat) (a0_0 : Bool) (a0_1 : List Int) : F123 (k + 2) a0_0 a0_1 =
    if (decide ((a0_1.length : Int) > (16 : Int))) = true then some ((false, ()), (((), (), ()), ())) else if a0_0 = true then if ((a0_1.length : Int) == (0 : Int)) = true then some ((false, ()), (((), (), ()), ())) else F123c4 k a0_0 a0_1 (0 : Int) else F123c4 k a0_0 a0_1 (0 : Int) := by kernel_rfl
theorem F123c4_eq (k : Nat) (x1_0 : Bool) (x1_1 : List Int) (x3 : Int) : F123c4 (k + 1) x1_0 x1_1 x3 =
    if (decide (x3 < (x1_1.length : Int))) = true then if (decide (0 ≤ x3)) = true then (x1_1[x3.toNat]?).bind fun y1 => (F77 k y1 (0 : Int) (9999 : Int)).bind fun r2 => if (!r2.1.1) = true then some ((false, ()), (((), (), ()), ())) else F123c4 k x1_0 x1_1 (IntKind.i64.wrap (x3 + (1 : Int))) else none else if ((x1_1.length : Int) == (0 : Int)) = true then some ((true, ()), (((), (), ()), ())) else if (decide (0 ≤ (IntKind.i64.wrap ((x1_1.length : Int) - (1 : Int))))) = true then (x1_1[(IntKind.i64.wrap ((x1_1.length : Int) - (1 : Int))).toNat]?).bind fun y3 => some (((y3 != (0 : Int)), ()), (((), (), ()), ())) else none := by kernel_rfl
theorem F124_eq (k : Nat) (a0 : List Int) : F124 (k + 2) a0 =
    if ((a0.length : Int) == (0 : Int)) = true then some (((0 : Int), ()), ((), ())) else (F161 k a0).bind fun r1 => some (((r1.1.1.size : Int), ()), ((), ())) := by kernel_rfl
theorem F125_eq (k : Nat) (a0 : Bool) : F125 (k + 2) a0 =
    if a0 = true then some (((1 : Int), ()), ((), ())) else some (((0 : Int), ()), ((), ())) := by kernel_rfl
theorem F128_eq (k : Nat) (a0_0 : Bool) (a0_1 : List Int) (a0_2 : Int) : F128 (k + 2) a0_0 a0_1 a0_2 =
    (F71 k a0_0 a0_1 a0_2).bind fun r1 => if (!r1.1.1) = true then some (((false, ([] : List Int), (0 : Int), ()), ()), (((), (), (), ()), ())) else F128c4 k a0_0 a0_1 a0_2 false ([] : List Int) (0 : Int) a0_1 a0_2 := by kernel_rfl
theorem F128c4_eq (k : Nat) (x1_0 : Bool) (x1_1 : List Int) (x1_2 : Int) (x2_0 : Bool) (x2_1 : List Int) (x2_2 : Int) (x3 : List Int) (x4 : Int) : F128c4 (k + 1) x1_0 x1_1 x1_2 x2_0 x2_1 x2_2 x3 x4 =
    if (decide (x4 > (0 : Int))) = true then (F165 k x3 [(10 : Int)]).bind fun r2 => if (decide ((r2.1.2.1.length : Int) > (0 : Int))) = true then (F91 k x1_0 x3).bind fun r3 => some (((r3.1.1.1, r3.1.1.2.1, x4, ()), ()), (((), (), (), ()), ())) else F128c4 k x1_0 x1_1 x1_2 x2_0 x2_1 x2_2 r2.1.1 (IntKind.i64.wrap (x4 - (1 : Int))) else (F91 k x1_0 x3).bind fun r4 => some (((r4.1.1.1, r4.1.1.2.1, x4, ()), ()), (((), (), (), ()), ())) := by kernel_rfl
theorem F129_eq (k : Nat) (a0 : List Int) : F129 (k + 1) a0 = textR (a0, ()) := by kernel_rfl
theorem F130_eq (k : Nat) (a0 : ByteArray) (a1 : ByteArray) : F130 (k + 1) a0 a1 = trimR (a0, a1, ()) := by kernel_rfl
theorem F131_eq (k : Nat) (a0 : ByteArray) (a1 : Int) : F131 (k + 2) a0 a1 =
    if (decide (a1 ≥ (a0.size : Int))) = true then some (((false, ([] : List Int), (0 : Int), ()), (-1 : Int), ()), ((), (), ())) else if (decide (0 ≤ a1)) = true then (a0[a1.toNat]?).bind fun u1 => if ((u1.toNat : Int) == (128 : Int)) = true then some (((false, ([] : List Int), (0 : Int), ()), (IntKind.i64.wrap (a1 + (1 : Int))), ()), ((), (), ())) else if (decide (0 ≤ a1)) = true then (a0[a1.toNat]?).bind fun u2 => if ((u2.toNat : Int) != (127 : Int)) = true then if (decide (0 ≤ a1)) = true then (a0[a1.toNat]?).bind fun u3 => if ((u3.toNat : Int) != (129 : Int)) = true then some (((false, ([] : List Int), (0 : Int), ()), (-1 : Int), ()), ((), (), ())) else if (decide (0 ≤ a1)) = true then (a0[a1.toNat]?).bind fun u4 => if (decide (0 ≤ (IntKind.i64.wrap (a1 + (1 : Int)))) && decide ((IntKind.i64.wrap (a1 + (1 : Int))) ≤ (a0.size : Int))) = true then if ((u4.toNat : Int) == (127 : Int)) = true then (F88 k (a0.extract ((IntKind.i64.wrap (a1 + (1 : Int))).toNat) a0.size)).bind fun r5 => F131c11 k a1 false ([] : List Int) (0 : Int) ((u4.toNat : Int) == (127 : Int)) r5.1.1 else F131c11 k a1 false ([] : List Int) (0 : Int) ((u4.toNat : Int) == (127 : Int)) (a0.extract ((IntKind.i64.wrap (a1 + (1 : Int))).toNat) a0.size) else none else none else none else if (decide (0 ≤ a1)) = true then (a0[a1.toNat]?).bind fun u6 => if (decide (0 ≤ (IntKind.i64.wrap (a1 + (1 : Int)))) && decide ((IntKind.i64.wrap (a1 + (1 : Int))) ≤ (a0.size : Int))) = true then if ((u6.toNat : Int) == (127 : Int)) = true then (F88 k (a0.extract ((IntKind.i64.wrap (a1 + (1 : Int))).toNat) a0.size)).bind fun r7 => F131c11 k a1 false ([] : List Int) (0 : Int) ((u6.toNat : Int) == (127 : Int)) r7.1.1 else F131c11 k a1 false ([] : List Int) (0 : Int) ((u6.toNat : Int) == (127 : Int)) (a0.extract ((IntKind.i64.wrap (a1 + (1 : Int))).toNat) a0.size) else none else none else none else none := by kernel_rfl
theorem F131c11_eq (k : Nat) (x1 : Int) (x4_0 : Bool) (x4_1 : List Int) (x4_2 : Int) (x6 : Bool) (x7 : ByteArray) : F131c11 (k + 1) x1 x4_0 x4_1 x4_2 x6 x7 =
    (F133 k x7 (1 : Int)).bind fun r8 => if (decide (r8.1.1 < (0 : Int))) = true then some (((false, ([] : List Int), (0 : Int), ()), (-1 : Int), ()), ((), (), ())) else if (decide (0 ≤ (1 : Int)) && decide ((1 : Int) ≤ r8.1.1) && decide (r8.1.1 ≤ (x7.size : Int))) = true then (F172 k (x7.extract 1 r8.1.1.toNat)).bind fun r9 => if (r9.1.1.toList == (⟨#[]⟩ : ByteArray).toList) = true then some (((false, ([] : List Int), (0 : Int), ()), (-1 : Int), ()), ((), (), ())) else (x7[0]?).bind fun u10 => (F173 k x6 r9.1.1 (IntKind.i64.wrap ((IntKind.i64.wrap (u10.toNat : Int)) - (64 : Int)))).bind fun r11 => if (!r11.1.2.1) = true then some (((false, ([] : List Int), (0 : Int), ()), (-1 : Int), ()), ((), (), ())) else some (((r11.1.1.1, r11.1.1.2.1, r11.1.1.2.2.1, ()), (IntKind.i64.wrap ((IntKind.i64.wrap ((IntKind.i64.wrap (x1 + (1 : Int))) + r8.1.1)) + (1 : Int))), ()), ((), (), ())) else none := by kernel_rfl
theorem F132_eq (k : Nat) (a0 : ByteArray) (a1 : Int) : F132 (k + 2) a0 a1 =
    if (decide (0 ≤ a1)) = true then (a0[a1.toNat]?).bind fun u1 => if (decide (0 ≤ (IntKind.i64.wrap (a1 + (1 : Int))))) = true then (a0[(IntKind.i64.wrap (a1 + (1 : Int))).toNat]?).bind fun u2 => if (decide (0 ≤ (IntKind.i64.wrap (a1 + (2 : Int))))) = true then (a0[(IntKind.i64.wrap (a1 + (2 : Int))).toNat]?).bind fun u3 => some (((IntKind.i64.wrap ((IntKind.i64.wrap ((IntKind.i64.wrap ((IntKind.i64.wrap (u1.toNat : Int)) * (65536 : Int))) + (IntKind.i64.wrap ((IntKind.i64.wrap (u2.toNat : Int)) * (256 : Int))))) + (IntKind.i64.wrap (u3.toNat : Int)))), ()), ((), (), ())) else none else none else none := by kernel_rfl
theorem F133_eq (k : Nat) (a0 : ByteArray) (a1 : Int) : F133 (k + 2) a0 a1 =
    F133c2 k a0 a1 := by kernel_rfl
theorem F133c2_eq (k : Nat) (x0 : ByteArray) (x5 : Int) : F133c2 (k + 1) x0 x5 =
    if (decide (x5 < (x0.size : Int))) = true then if (decide (0 ≤ x5)) = true then (x0[x5.toNat]?).bind fun u1 => if ((u1.toNat : Int) == (0 : Int)) = true then some ((x5, ()), ((), (), ())) else F133c2 k x0 (IntKind.i64.wrap (x5 + (1 : Int))) else none else some (((-1 : Int), ()), ((), (), ())) := by kernel_rfl
theorem F139_eq (k : Nat) (a0 : List Int) : F139 (k + 2) a0 =
    F139c1 k a0 := by kernel_rfl
theorem F139c1_eq (k : Nat) (x0 : List Int) : F139c1 (k + 1) x0 =
    if (decide ((x0.length : Int) > (0 : Int))) = true then if (decide (0 ≤ (IntKind.i64.wrap ((x0.length : Int) - (1 : Int))))) = true then (x0[(IntKind.i64.wrap ((x0.length : Int) - (1 : Int))).toNat]?).bind fun y1 => if (y1 == (0 : Int)) = true then if (decide (0 ≤ (IntKind.i64.wrap ((x0.length : Int) - (1 : Int)))) && decide ((IntKind.i64.wrap ((x0.length : Int) - (1 : Int))) ≤ (x0.length : Int))) = true then F139c1 k (slices x0 0 ((IntKind.i64.wrap ((x0.length : Int) - (1 : Int))).toNat)) else none else some ((x0, ()), ((), ())) else none else some ((x0, ()), ((), ())) := by kernel_rfl
theorem F140_eq (k : Nat) (a0 : List Int) : F140 (k + 2) a0 =
    (F179 k a0).bind fun r1 => (F178 k r1.1.1).bind fun r2 => some ((r2.1.1, ()), ((), ())) := by kernel_rfl
theorem F141_eq (k : Nat) (a0 : ByteArray) : F141 (k + 1) a0 = atoiR (a0, ()) := by kernel_rfl
theorem F143_eq (k : Nat) (a0 : List Int) (a1 : List Int) : F143 (k + 2) a0 a1 =
    if ((a0.length : Int) != (a1.length : Int)) = true then some ((false, ()), ((), (), ())) else F143c4 k a0 a1 (0 : Int) := by kernel_rfl
theorem F143c4_eq (k : Nat) (x0 : List Int) (x1 : List Int) (x5 : Int) : F143c4 (k + 1) x0 x1 x5 =
    if (decide (x5 < (x0.length : Int))) = true then if (decide (0 ≤ x5)) = true then (x0[x5.toNat]?).bind fun y1 => if (decide (0 ≤ x5)) = true then (x1[x5.toNat]?).bind fun y2 => if (y1 != y2) = true then some ((false, ()), ((), (), ())) else F143c4 k x0 x1 (IntKind.i64.wrap (x5 + (1 : Int))) else none else none else some ((true, ()), ((), (), ())) := by kernel_rfl
theorem F144_eq (k : Nat) (a0 : List Int) (a1 : Int) : F144 (k + 2) a0 a1 =
    F144c2 k a0 a1 (0 : Int) := by kernel_rfl
theorem F144c2_eq (k : Nat) (x0 : List Int) (x1 : Int) (x5 : Int) : F144c2 (k + 1) x0 x1 x5 =
    if (decide (x5 < (x0.length : Int))) = true then if (decide (0 ≤ x5) && decide (x5 < (x0.length : Int))) = true then (x0[x5.toNat]?).bind fun y1 => F144c2 k (x0.set x5.toNat x1) (IntKind.i64.wrap (x1 + (1 : Int))) (IntKind.i64.wrap (x5 + (1 : Int))) else none else some ((x1, ()), (x0, (), ())) := by kernel_rfl
theorem F145_eq (k : Nat) (a0 : List Int) (a1 : Int) : F145 (k + 2) a0 a1 =
    F145c2 k a0 a1 (0 : Int) := by kernel_rfl
theorem F145c2_eq (k : Nat) (x0 : List Int) (x1 : Int) (x5 : Int) : F145c2 (k + 1) x0 x1 x5 =
    if (decide (x5 < (x0.length : Int))) = true then if (decide (0 ≤ x5)) = true then (x0[x5.toNat]?).bind fun y1 => if (y1 != x1) = true then some (((-1 : Int), ()), ((), (), ())) else F145c2 k x0 (IntKind.i64.wrap (x1 + (1 : Int))) (IntKind.i64.wrap (x5 + (1 : Int))) else none else some ((x1, ()), ((), (), ())) := by kernel_rfl
theorem F149_eq (k : Nat) (a0 : List Int) (a1 : Int) : F149 (k + 2) a0 a1 =
    if (decide ((IntKind.i64.wrap (a1 - (a0.length : Int))) < (0 : Int))) = true then some (((-1 : Int), ()), ((), (), ())) else some (((IntKind.i64.wrap (a1 - (a0.length : Int))), ()), ((), (), ())) := by kernel_rfl
theorem F150_eq (k : Nat) (a0_0 : Bool) (a0_1 : List Int) (a0_2 : Int) : F150 (k + 2) a0_0 a0_1 a0_2 =
    (F191 k a0_0 a0_1 a0_2).bind fun r1 => if ((r1.1.1.2.1.length : Int) == (0 : Int)) = true then some (((⟨#[128]⟩ : ByteArray), ()), (((), (), (), ()), ())) else (F161 k r1.1.1.2.1).bind fun r2 => F150c7 k a0_0 a0_1 a0_2 r2.1.1 (IntKind.i64.wrap ((r2.1.1.size : Int) - r1.1.1.2.2.1)) (r2.1.1.size : Int) := by kernel_rfl
theorem F150c7_eq (k : Nat) (x1_0 : Bool) (x1_1 : List Int) (x1_2 : Int) (x4 : ByteArray) (x5 : Int) (x6 : Int) : F150c7 (k + 1) x1_0 x1_1 x1_2 x4 x5 x6 =
    if (decide (0 ≤ (IntKind.i64.wrap (x6 - (1 : Int))))) = true then (x4[(IntKind.i64.wrap (x6 - (1 : Int))).toNat]?).bind fun u3 => if ((u3.toNat : Int) == (48 : Int)) = true then F150c7 k x1_0 x1_1 x1_2 x4 x5 (IntKind.i64.wrap (x6 - (1 : Int))) else if (decide (0 ≤ x6) && decide (x6 ≤ (x4.size : Int))) = true then (F192 k (x4.extract 0 x6.toNat)).bind fun r4 => if (Nat.ble ((bytesOf [(IntKind.u8.wrap (IntKind.i64.wrap ((64 : Int) + x5)))]).size + r4.1.1.size) 9223372036854775807) = true then if x1_0 = true then (F88 k ((bytesOf [(IntKind.u8.wrap (IntKind.i64.wrap ((64 : Int) + x5)))]) ++ r4.1.1)).bind fun r5 => if (Nat.ble ((⟨#[127]⟩ : ByteArray).size + r5.1.1.size) 9223372036854775807) = true then some ((((⟨#[127]⟩ : ByteArray) ++ r5.1.1), ()), (((), (), (), ()), ())) else none else if (Nat.ble ((⟨#[129]⟩ : ByteArray).size + ((bytesOf [(IntKind.u8.wrap (IntKind.i64.wrap ((64 : Int) + x5)))]) ++ r4.1.1).size) 9223372036854775807) = true then some ((((⟨#[129]⟩ : ByteArray) ++ ((bytesOf [(IntKind.u8.wrap (IntKind.i64.wrap ((64 : Int) + x5)))]) ++ r4.1.1)), ()), (((), (), (), ()), ())) else none else none else none else none := by kernel_rfl
theorem F151_eq (k : Nat) (a0 : Int) : F151 (k + 2) a0 =
    some (((bytesOf [(IntKind.u8.wrap (IntKind.i64.wrap (a0.tdiv (65536 : Int)))), (IntKind.u8.wrap ((IntKind.i64.wrap (a0.tdiv (256 : Int))).tmod (256 : Int))), (IntKind.u8.wrap (a0.tmod (256 : Int)))]), ()), ((), ())) := by kernel_rfl
theorem F152_eq (k : Nat) (a0 : List Int) : F152 (k + 2) a0 =
    if (decide (0 ≤ (a0.length : Int)) && decide ((a0.length : Int) ≤ (a0.length : Int)) && decide ((a0.length : Int) ≤ (17592186044416 : Int))) = true then F152c3 k a0 (List.replicate (a0.length : Int).toNat (0 : Int)) (0 : Int) else none := by kernel_rfl
theorem F152c3_eq (k : Nat) (x0 : List Int) (x3 : List Int) (x4 : Int) : F152c3 (k + 1) x0 x3 x4 =
    if (decide (x4 < (x0.length : Int))) = true then if (decide (0 ≤ x4)) = true then (x0[x4.toNat]?).bind fun y1 => if (decide (0 ≤ x4) && decide (x4 < (x3.length : Int))) = true then (x3[x4.toNat]?).bind fun y2 => F152c3 k x0 (x3.set x4.toNat y1) (IntKind.i64.wrap (x4 + (1 : Int))) else none else none else some ((x3, ()), ((), ())) := by kernel_rfl
theorem F155_eq (k : Nat) (a0 : Int) : F155 (k + 2) a0 =
    (F40 k a0 (0 : Int) (9999 : Int)).bind fun r1 => some (((!r1.1.1), ()), ((), ())) := by kernel_rfl
theorem F161_eq (k : Nat) (a0 : List Int) : F161 (k + 2) a0 =
    if ((a0.length : Int) == (0 : Int)) = true then some (((⟨#[48]⟩ : ByteArray), ()), ((), ())) else if (decide (0 ≤ (IntKind.i64.wrap ((a0.length : Int) - (1 : Int))))) = true then (a0[(IntKind.i64.wrap ((a0.length : Int) - (1 : Int))).toNat]?).bind fun y1 => (F202 k y1).bind fun r2 => F161c5 k a0 r2.1.1 (IntKind.i64.wrap ((a0.length : Int) - (2 : Int))) else none := by kernel_rfl
theorem F161c5_eq (k : Nat) (x0 : List Int) (x3 : ByteArray) (x4 : Int) : F161c5 (k + 1) x0 x3 x4 =
    if (decide (x4 ≥ (0 : Int))) = true then if (decide (0 ≤ x4)) = true then (x0[x4.toNat]?).bind fun y3 => (F203 k y3 (4 : Int)).bind fun r4 => if (Nat.ble (x3.size + r4.1.1.size) 9223372036854775807) = true then F161c5 k x0 (x3 ++ r4.1.1) (IntKind.i64.wrap (x4 - (1 : Int))) else none else none else some ((x3, ()), ((), ())) := by kernel_rfl
theorem F165_eq (k : Nat) (a0 : List Int) (a1 : List Int) : F165 (k + 2) a0 a1 =
    if (decide (0 ≤ (a0.length : Int)) && decide ((a0.length : Int) ≤ (a0.length : Int)) && decide ((a0.length : Int) ≤ (17592186044416 : Int))) = true then if Nat.ble a0.length 1152921504606846976 = true then (backK (.int .i64) [.box [.v (.sl (.int .i64))], .box [.o (.int .i64) 3 true], .box [.v (.sl (.int .i64))]] (fun i x d1 => (F1018165 k i x d1.1.1 d1.2.1.1 d1.2.2.1.1).bind fun o3 => some o3.2.2.2) a0.reverse ((a1, ()), (List.replicate (a0.length : Int).toNat (0 : Int), ()), (([] : List Int), ()), ())).bind fun d2 => F165c15 k d2.2.1.1 d2.2.2.1.1 else none else none := by kernel_rfl
theorem F165c15_eq (k : Nat) (x6_0 : List Int) (x7_0 : List Int) : F165c15 (k + 1) x6_0 x7_0 =
    (F139 k x6_0).bind fun r4 => some ((r4.1.1, x7_0, ()), ((), (), ())) := by kernel_rfl
theorem F172_eq (k : Nat) (a0 : ByteArray) : F172 (k + 2) a0 =
    F172c3 k a0 (⟨#[]⟩ : ByteArray) (0 : Int) := by kernel_rfl
theorem F172c3_eq (k : Nat) (x0 : ByteArray) (x3 : ByteArray) (x4 : Int) : F172c3 (k + 1) x0 x3 x4 =
    if (decide (x4 < (x0.size : Int))) = true then if (decide (0 ≤ x4)) = true then (x0[x4.toNat]?).bind fun u1 => if (decide ((u1.toNat : Int) < (1 : Int))) = true then some (((⟨#[]⟩ : ByteArray), ()), ((), ())) else if (decide (0 ≤ x4)) = true then (x0[x4.toNat]?).bind fun u2 => if (decide ((u2.toNat : Int) > (10 : Int))) = true then some (((⟨#[]⟩ : ByteArray), ()), ((), ())) else if (decide (0 ≤ x4)) = true then (x0[x4.toNat]?).bind fun u3 => if (Nat.ble (x3.size + (bytesOf [(IntKind.u8.wrap ((IntKind.u8.wrap ((u3.toNat : Int) - (1 : Int))) + (48 : Int)))]).size) 9223372036854775807) = true then F172c3 k x0 (x3 ++ (bytesOf [(IntKind.u8.wrap ((IntKind.u8.wrap ((u3.toNat : Int) - (1 : Int))) + (48 : Int)))])) (IntKind.i64.wrap (x4 + (1 : Int))) else none else none else none else none else if ((x3.size : Int) == (0 : Int)) = true then some (((⟨#[]⟩ : ByteArray), ()), ((), ())) else (x3[0]?).bind fun u4 => if ((u4.toNat : Int) == (48 : Int)) = true then some (((⟨#[]⟩ : ByteArray), ()), ((), ())) else if (decide (0 ≤ (IntKind.i64.wrap ((x3.size : Int) - (1 : Int))))) = true then (x3[(IntKind.i64.wrap ((x3.size : Int) - (1 : Int))).toNat]?).bind fun u5 => if ((u5.toNat : Int) == (48 : Int)) = true then some (((⟨#[]⟩ : ByteArray), ()), ((), ())) else some ((x3, ()), ((), ())) else none := by kernel_rfl
theorem F173_eq (k : Nat) (a0 : Bool) (a1 : ByteArray) (a2 : Int) : F173 (k + 2) a0 a1 a2 =
    if (decide (a2 < (a1.size : Int))) = true then F173c4 k a0 a1 a2 false ([] : List Int) (0 : Int) (IntKind.i64.wrap ((a1.size : Int) - a2)) else F173c4 k a0 a1 a2 false ([] : List Int) (0 : Int) (0 : Int) := by kernel_rfl
theorem F173c4_eq (k : Nat) (x0 : Bool) (x1 : ByteArray) (x2 : Int) (x6_0 : Bool) (x6_1 : List Int) (x6_2 : Int) (x8 : Int) : F173c4 (k + 1) x0 x1 x2 x6_0 x6_1 x6_2 x8 =
    if (decide (x2 > (30 : Int))) = true then some (((false, ([] : List Int), (0 : Int), ()), false, ()), ((), (), (), ())) else if (decide (x8 > (12 : Int))) = true then some (((false, ([] : List Int), (0 : Int), ()), false, ()), ((), (), (), ())) else if (decide ((x1.size : Int) > (30 : Int))) = true then some (((false, ([] : List Int), (0 : Int), ()), false, ()), ((), (), (), ())) else F173c6 k x0 x1 x2 x6_0 x6_1 x6_2 x8 := by kernel_rfl
theorem F173c6_eq (k : Nat) (x0 : Bool) (x1 : ByteArray) (x2 : Int) (x6_0 : Bool) (x6_1 : List Int) (x6_2 : Int) (x8 : Int) : F173c6 (k + 1) x0 x1 x2 x6_0 x6_1 x6_2 x8 =
    if (decide ((x1.size : Int) < x2)) = true then if (Nat.ble (x1.size + (⟨#[48]⟩ : ByteArray).size) 9223372036854775807) = true then F173c6 k x0 (x1 ++ (⟨#[48]⟩ : ByteArray)) x2 x6_0 x6_1 x6_2 x8 else none else (F190 k x1).bind fun r1 => (F79 k x0 r1.1.1 x8).bind fun r2 => some (((x0, r1.1.1, x8, ()), r2.1.1, ()), ((), (), (), ())) := by kernel_rfl
theorem F178_eq (k : Nat) (a0 : List Int) : F178 (k + 2) a0 =
    if ((a0.length : Int) == (a0.length : Int) && (a0.length : Int) == (a0.length : Int)) = true then some ((a0, ()), ((), ())) else none := by kernel_rfl
theorem F179_eq (k : Nat) (a0 : List Int) : F179 (k + 2) a0 =
    bothK (emptyL a0) (some ((([] : List Int), ()), ((), ()))) (if (decide (([] : List Int).length + a0.length ≤ 17592186044416)) = true then some (((([] : List Int) ++ a0), ()), ((), ())) else none) := by kernel_rfl
theorem F190_eq (k : Nat) (a0 : ByteArray) : F190 (k + 2) a0 =
    F190c2 k a0 ([] : List Int) := by kernel_rfl
theorem F190c2_eq (k : Nat) (x0 : ByteArray) (x3 : List Int) : F190c2 (k + 1) x0 x3 =
    if (decide ((x0.size : Int) > (0 : Int))) = true then if (decide ((IntKind.i64.wrap ((x0.size : Int) - (4 : Int))) < (0 : Int))) = true then F190c6 k x0 x3 (0 : Int) else F190c6 k x0 x3 (IntKind.i64.wrap ((x0.size : Int) - (4 : Int))) else (F224 k x3).bind fun r1 => some ((r1.1.1, ()), ((), ())) := by kernel_rfl
theorem F190c6_eq (k : Nat) (x0 : ByteArray) (x3 : List Int) (x4 : Int) : F190c6 (k + 1) x0 x3 x4 =
    F190c8 k x0 x3 x4 (0 : Int) x4 := by kernel_rfl
theorem F190c8_eq (k : Nat) (x0 : ByteArray) (x3 : List Int) (x4 : Int) (x5 : Int) (x6 : Int) : F190c8 (k + 1) x0 x3 x4 x5 x6 =
    if (decide (x6 < (x0.size : Int))) = true then if (decide (0 ≤ x6)) = true then (x0[x6.toNat]?).bind fun u2 => F190c8 k x0 x3 x4 (IntKind.i64.wrap ((IntKind.i64.wrap (x5 * (10 : Int))) + (IntKind.i64.wrap (IntKind.u8.wrap ((u2.toNat : Int) - (48 : Int)))))) (IntKind.i64.wrap (x6 + (1 : Int))) else none else if (decide (x3.length + [x5].length ≤ 17592186044416)) = true then if (decide (0 ≤ x4) && decide (x4 ≤ (x0.size : Int))) = true then F190c2 k (x0.extract 0 x4.toNat) (x3 ++ [x5]) else none else none := by kernel_rfl
theorem F191_eq (k : Nat) (a0_0 : Bool) (a0_1 : List Int) (a0_2 : Int) : F191 (k + 2) a0_0 a0_1 a0_2 =
    F191c3 k a0_0 a0_1 a0_2 false ([] : List Int) (0 : Int) a0_1 a0_2 := by kernel_rfl
theorem F191c3_eq (k : Nat) (x1_0 : Bool) (x1_1 : List Int) (x1_2 : Int) (x2_0 : Bool) (x2_1 : List Int) (x2_2 : Int) (x3 : List Int) (x4 : Int) : F191c3 (k + 1) x1_0 x1_1 x1_2 x2_0 x2_1 x2_2 x3 x4 =
    if (decide (x4 > (0 : Int))) = true then (F225 k x3 [(10 : Int)]).bind fun r1 => if (decide ((r1.1.2.1.length : Int) > (0 : Int))) = true then (F224 k x3).bind fun r2 => some (((x1_0, r2.1.1, x4, ()), ()), (((), (), (), ()), ())) else F191c3 k x1_0 x1_1 x1_2 x2_0 x2_1 x2_2 r1.1.1 (IntKind.i64.wrap (x4 - (1 : Int))) else (F224 k x3).bind fun r3 => some (((x1_0, r3.1.1, (0 : Int), ()), ()), (((), (), (), ()), ())) := by kernel_rfl
theorem F192_eq (k : Nat) (a0 : ByteArray) : F192 (k + 2) a0 =
    if (decide (0 ≤ (IntKind.i64.wrap ((a0.size : Int) + (1 : Int)))) && decide ((IntKind.i64.wrap ((a0.size : Int) + (1 : Int))) ≤ (IntKind.i64.wrap ((a0.size : Int) + (1 : Int)))) && decide ((IntKind.i64.wrap ((a0.size : Int) + (1 : Int))) ≤ (140737488355328 : Int))) = true then F192c3 k a0 (List.replicate (IntKind.i64.wrap ((a0.size : Int) + (1 : Int))).toNat (0 : Int)) (0 : Int) else none := by kernel_rfl
theorem F192c3_eq (k : Nat) (x0 : ByteArray) (x3 : List Int) (x4 : Int) : F192c3 (k + 1) x0 x3 x4 =
    if (decide (x4 < (x0.size : Int))) = true then if (decide (0 ≤ x4)) = true then (x0[x4.toNat]?).bind fun u1 => if (decide (0 ≤ x4) && decide (x4 < (x3.length : Int))) = true then (x3[x4.toNat]?).bind fun y2 => F192c3 k x0 (x3.set x4.toNat (IntKind.u8.wrap ((IntKind.u8.wrap ((u1.toNat : Int) - (48 : Int))) + (1 : Int)))) (IntKind.i64.wrap (x4 + (1 : Int))) else none else none else some (((bytesOf x3), ()), ((), ())) := by kernel_rfl
theorem F196_eq (k : Nat) (a0 : List Int) (a1 : List Int) : F196 (k + 2) a0 a1 =
    if (decide (0 ≤ (IntKind.i64.wrap ((IntKind.i64.wrap ((a0.length : Int) + (a1.length : Int))) + (1 : Int)))) && decide ((IntKind.i64.wrap ((IntKind.i64.wrap ((a0.length : Int) + (a1.length : Int))) + (1 : Int))) ≤ (IntKind.i64.wrap ((IntKind.i64.wrap ((a0.length : Int) + (a1.length : Int))) + (1 : Int)))) && decide ((IntKind.i64.wrap ((IntKind.i64.wrap ((a0.length : Int) + (a1.length : Int))) + (1 : Int))) ≤ (17592186044416 : Int))) = true then F196c3 k a1 (List.replicate (IntKind.i64.wrap ((IntKind.i64.wrap ((a0.length : Int) + (a1.length : Int))) + (1 : Int))).toNat (0 : Int)) a0 (a0.length : Int) (0 : Int) else none := by kernel_rfl
theorem F196c3_eq (k : Nat) (x1 : List Int) (x5 : List Int) (x19 : List Int) (x20 : Int) (x21 : Int) : F196c3 (k + 1) x1 x5 x19 x20 x21 =
    if (decide (x21 < x20)) = true then if (decide (0 ≤ x21)) = true then (x19[x21.toNat]?).bind fun y1 => F196c7 k x1 x5 x21 y1 (0 : Int) x19 x20 x21 x1 (x1.length : Int) (0 : Int) else none else (F139 k x5).bind fun r2 => some ((r2.1.1, ()), ((), (), ())) := by kernel_rfl
theorem F196c7_eq (k : Nat) (x1 : List Int) (x5 : List Int) (x6 : Int) (x7 : Int) (x8 : Int) (x19 : List Int) (x20 : Int) (x21 : Int) (x26 : List Int) (x27 : Int) (x28 : Int) : F196c7 (k + 1) x1 x5 x6 x7 x8 x19 x20 x21 x26 x27 x28 =
    if (decide (x28 < x27)) = true then if (decide (0 ≤ x28)) = true then (x26[x28.toNat]?).bind fun y3 => if (decide (0 ≤ (IntKind.i64.wrap (x6 + x28))) && decide ((IntKind.i64.wrap (x6 + x28)) < (x5.length : Int))) = true then (x5[(IntKind.i64.wrap (x6 + x28)).toNat]?).bind fun y4 => if (decide (0 ≤ (IntKind.i64.wrap (x6 + x28))) && decide ((IntKind.i64.wrap (x6 + x28)) < (x5.length : Int))) = true then (x5[(IntKind.i64.wrap (x6 + x28)).toNat]?).bind fun y5 => F196c7 k x1 (x5.set ((IntKind.i64.wrap (x6 + x28)).toNat) ((IntKind.i64.wrap ((IntKind.i64.wrap (y4 + (IntKind.i64.wrap (x7 * y3)))) + x8)).tmod (10000 : Int))) x6 x7 (IntKind.i64.wrap ((IntKind.i64.wrap ((IntKind.i64.wrap (y4 + (IntKind.i64.wrap (x7 * y3)))) + x8)).tdiv (10000 : Int))) x19 x20 x21 x26 x27 (IntKind.i64.wrap (x28 + (1 : Int))) else none else none else none else if (decide (0 ≤ (IntKind.i64.wrap (x6 + (x1.length : Int)))) && decide ((IntKind.i64.wrap (x6 + (x1.length : Int))) < (x5.length : Int))) = true then (x5[(IntKind.i64.wrap (x6 + (x1.length : Int))).toNat]?).bind fun y6 => if (decide (0 ≤ (IntKind.i64.wrap (x6 + (x1.length : Int)))) && decide ((IntKind.i64.wrap (x6 + (x1.length : Int))) < (x5.length : Int))) = true then (x5[(IntKind.i64.wrap (x6 + (x1.length : Int))).toNat]?).bind fun y7 => F196c3 k x1 (x5.set ((IntKind.i64.wrap (x6 + (x1.length : Int))).toNat) (IntKind.i64.wrap (y6 + x8))) x19 x20 (IntKind.i64.wrap (x21 + (1 : Int))) else none else none := by kernel_rfl
theorem F199_eq (k : Nat) (a0 : List Int) (a1 : List Int) : F199 (k + 2) a0 a1 =
    if ((a0.length : Int) != (a1.length : Int)) = true then some (((if (if (IntKind.i64.wrap ((a0.length : Int) - (a1.length : Int))) < (1 : Int) then (IntKind.i64.wrap ((a0.length : Int) - (a1.length : Int))) else (1 : Int)) > (-1 : Int) then (if (IntKind.i64.wrap ((a0.length : Int) - (a1.length : Int))) < (1 : Int) then (IntKind.i64.wrap ((a0.length : Int) - (a1.length : Int))) else (1 : Int)) else (-1 : Int)), ()), ((), (), ())) else F199c4 k a0 a1 (IntKind.i64.wrap ((a0.length : Int) - (1 : Int))) := by kernel_rfl
theorem F199c4_eq (k : Nat) (x0 : List Int) (x1 : List Int) (x5 : Int) : F199c4 (k + 1) x0 x1 x5 =
    if (decide (x5 ≥ (0 : Int))) = true then if (decide (0 ≤ x5)) = true then (x0[x5.toNat]?).bind fun y1 => if (decide (0 ≤ x5)) = true then (x1[x5.toNat]?).bind fun y2 => if (y1 != y2) = true then if (decide (0 ≤ x5)) = true then (x0[x5.toNat]?).bind fun y3 => if (decide (0 ≤ x5)) = true then (x1[x5.toNat]?).bind fun y4 => some (((if (if (IntKind.i64.wrap (y3 - y4)) < (1 : Int) then (IntKind.i64.wrap (y3 - y4)) else (1 : Int)) > (-1 : Int) then (if (IntKind.i64.wrap (y3 - y4)) < (1 : Int) then (IntKind.i64.wrap (y3 - y4)) else (1 : Int)) else (-1 : Int)), ()), ((), (), ())) else none else none else F199c4 k x0 x1 (IntKind.i64.wrap (x5 - (1 : Int))) else none else none else some (((0 : Int), ()), ((), (), ())) := by kernel_rfl
theorem F200_eq (k : Nat) (a0 : List Int) (a1 : List Int) : F200 (k + 2) a0 a1 =
    (F227 k a0).bind fun r1 => F200c3 k r1.1.1 a1 (a1.length : Int) (0 : Int) := by kernel_rfl
theorem F200c3_eq (k : Nat) (x5 : List Int) (x11 : List Int) (x12 : Int) (x13 : Int) : F200c3 (k + 1) x5 x11 x12 x13 =
    if (decide (x13 < x12)) = true then if (decide (0 ≤ x13)) = true then (x11[x13.toNat]?).bind fun y2 => if (decide (0 ≤ x13) && decide (x13 < (x5.length : Int))) = true then (x5[x13.toNat]?).bind fun y3 => if (decide (0 ≤ x13) && decide (x13 < (x5.length : Int))) = true then (x5[x13.toNat]?).bind fun y4 => F200c3 k (x5.set x13.toNat (IntKind.i64.wrap (y3 - y2))) x11 x12 (IntKind.i64.wrap (x13 + (1 : Int))) else none else none else none else F200c8 k x5 (x5.length : Int) (0 : Int) := by kernel_rfl
theorem F200c8_eq (k : Nat) (x5 : List Int) (x27 : Int) (x28 : Int) : F200c8 (k + 1) x5 x27 x28 =
    if (decide (x28 < x27)) = true then if (decide (0 ≤ x28) && decide (x28 < (x5.length : Int))) = true then (x5[x28.toNat]?).bind fun y5 => if (decide (y5 < (0 : Int))) = true then if (decide (0 ≤ x28) && decide (x28 < (x5.length : Int))) = true then (x5[x28.toNat]?).bind fun y6 => if (decide (0 ≤ x28) && decide (x28 < (x5.length : Int))) = true then (x5[x28.toNat]?).bind fun y7 => if (decide (0 ≤ (IntKind.i64.wrap (x28 + (1 : Int)))) && decide ((IntKind.i64.wrap (x28 + (1 : Int))) < ((x5.set x28.toNat (IntKind.i64.wrap (y6 + (10000 : Int)))).length : Int))) = true then ((x5.set x28.toNat (IntKind.i64.wrap (y6 + (10000 : Int))))[(IntKind.i64.wrap (x28 + (1 : Int))).toNat]?).bind fun y8 => if (decide (0 ≤ (IntKind.i64.wrap (x28 + (1 : Int)))) && decide ((IntKind.i64.wrap (x28 + (1 : Int))) < ((x5.set x28.toNat (IntKind.i64.wrap (y6 + (10000 : Int)))).length : Int))) = true then ((x5.set x28.toNat (IntKind.i64.wrap (y6 + (10000 : Int))))[(IntKind.i64.wrap (x28 + (1 : Int))).toNat]?).bind fun y9 => F200c13 k ((x5.set x28.toNat (IntKind.i64.wrap (y6 + (10000 : Int)))).set ((IntKind.i64.wrap (x28 + (1 : Int))).toNat) (IntKind.i64.wrap (y8 - (1 : Int)))) x27 x28 else none else none else none else none else F200c13 k x5 x27 x28 else none else (F139 k x5).bind fun r10 => some ((r10.1.1, ()), ((), (), ())) := by kernel_rfl
theorem F200c13_eq (k : Nat) (x5 : List Int) (x27 : Int) (x28 : Int) : F200c13 (k + 1) x5 x27 x28 =
    F200c8 k x5 x27 (IntKind.i64.wrap (x28 + (1 : Int))) := by kernel_rfl
theorem F202_eq (k : Nat) (a0 : Int) : F202 (k + 2) a0 =
    if (decide (a0 < (-9223372036854775807 : Int))) = true then some (((⟨#[45, 57, 50, 50, 51, 51, 55, 50, 48, 51, 54, 56, 53, 52, 55, 55, 53, 56, 48, 56]⟩ : ByteArray), ()), ((), ())) else if (decide (a0 < (0 : Int))) = true then (F202 k (IntKind.i64.wrap (0 - a0))).bind fun r1 => if (Nat.ble ((⟨#[45]⟩ : ByteArray).size + r1.1.1.size) 9223372036854775807) = true then some ((((⟨#[45]⟩ : ByteArray) ++ r1.1.1), ()), ((), ())) else none else if (decide (a0 < (10 : Int))) = true then some (((bytesOf [(IntKind.u8.wrap (IntKind.i64.wrap ((48 : Int) + a0)))]), ()), ((), ())) else (F202 k (IntKind.i64.wrap (a0.tdiv (10 : Int)))).bind fun r2 => if (Nat.ble (r2.1.1.size + (bytesOf [(IntKind.u8.wrap (IntKind.i64.wrap ((48 : Int) + (a0.tmod (10 : Int)))))]).size) 9223372036854775807) = true then some (((r2.1.1 ++ (bytesOf [(IntKind.u8.wrap (IntKind.i64.wrap ((48 : Int) + (a0.tmod (10 : Int)))))])), ()), ((), ())) else none := by kernel_rfl
theorem F203_eq (k : Nat) (a0 : Int) (a1 : Int) : F203 (k + 2) a0 a1 =
    (F202 k a0).bind fun r1 => F203c2 k a1 r1.1.1 := by kernel_rfl
theorem F203c2_eq (k : Nat) (x1 : Int) (x5 : ByteArray) : F203c2 (k + 1) x1 x5 =
    if (decide ((x5.size : Int) < x1)) = true then if (Nat.ble ((⟨#[48]⟩ : ByteArray).size + x5.size) 9223372036854775807) = true then F203c2 k x1 ((⟨#[48]⟩ : ByteArray) ++ x5) else none else some ((x5, ()), ((), (), ())) := by kernel_rfl
theorem F204_eq (k : Nat) (a0 : List Int) (a1 : List Int) : F204 (k + 2) a0 a1 =
    if (decide (0 ≤ (IntKind.i64.wrap ((a0.length : Int) + (a1.length : Int)))) && decide ((IntKind.i64.wrap ((a0.length : Int) + (a1.length : Int))) ≤ (IntKind.i64.wrap ((a0.length : Int) + (a1.length : Int)))) && decide ((IntKind.i64.wrap ((a0.length : Int) + (a1.length : Int))) ≤ (17592186044416 : Int))) = true then F204c3 k a0 a1 (List.replicate (IntKind.i64.wrap ((a0.length : Int) + (a1.length : Int))).toNat (0 : Int)) (0 : Int) else none := by kernel_rfl
theorem F204c3_eq (k : Nat) (x0 : List Int) (x1 : List Int) (x5 : List Int) (x6 : Int) : F204c3 (k + 1) x0 x1 x5 x6 =
    if (decide (x6 < (x0.length : Int))) = true then F204c7 k x0 x1 x5 x6 (0 : Int) (0 : Int) else (F224 k x5).bind fun r1 => some ((r1.1.1, ()), ((), (), ())) := by kernel_rfl
theorem F204c7_eq (k : Nat) (x0 : List Int) (x1 : List Int) (x5 : List Int) (x6 : Int) (x7 : Int) (x8 : Int) : F204c7 (k + 1) x0 x1 x5 x6 x7 x8 =
    if (decide (x8 < (x1.length : Int))) = true then if (decide (0 ≤ (IntKind.i64.wrap (x6 + x8))) && decide ((IntKind.i64.wrap (x6 + x8)) < (x5.length : Int))) = true then (x5[(IntKind.i64.wrap (x6 + x8)).toNat]?).bind fun y2 => if (decide (0 ≤ x6)) = true then (x0[x6.toNat]?).bind fun y3 => (F228 k x1 x8).bind fun r4 => if (decide (0 ≤ (IntKind.i64.wrap (x6 + x8))) && decide ((IntKind.i64.wrap (x6 + x8)) < (x5.length : Int))) = true then (x5[(IntKind.i64.wrap (x6 + x8)).toNat]?).bind fun y5 => F204c7 k x0 x1 (x5.set ((IntKind.i64.wrap (x6 + x8)).toNat) ((IntKind.i64.wrap ((IntKind.i64.wrap (y2 + (IntKind.i64.wrap (y3 * r4.1.1)))) + x7)).tmod (10000 : Int))) x6 (IntKind.i64.wrap ((IntKind.i64.wrap ((IntKind.i64.wrap (y2 + (IntKind.i64.wrap (y3 * r4.1.1)))) + x7)).tdiv (10000 : Int))) (IntKind.i64.wrap (x8 + (1 : Int))) else none else none else none else if (decide (x7 > (0 : Int))) = true then if (decide (0 ≤ (IntKind.i64.wrap (x6 + x8))) && decide ((IntKind.i64.wrap (x6 + x8)) < (x5.length : Int))) = true then (x5[(IntKind.i64.wrap (x6 + x8)).toNat]?).bind fun y6 => if (decide (0 ≤ x6)) = true then (x0[x6.toNat]?).bind fun y7 => (F228 k x1 x8).bind fun r8 => if (decide (0 ≤ (IntKind.i64.wrap (x6 + x8))) && decide ((IntKind.i64.wrap (x6 + x8)) < (x5.length : Int))) = true then (x5[(IntKind.i64.wrap (x6 + x8)).toNat]?).bind fun y9 => F204c7 k x0 x1 (x5.set ((IntKind.i64.wrap (x6 + x8)).toNat) ((IntKind.i64.wrap ((IntKind.i64.wrap (y6 + (IntKind.i64.wrap (y7 * r8.1.1)))) + x7)).tmod (10000 : Int))) x6 (IntKind.i64.wrap ((IntKind.i64.wrap ((IntKind.i64.wrap (y6 + (IntKind.i64.wrap (y7 * r8.1.1)))) + x7)).tdiv (10000 : Int))) (IntKind.i64.wrap (x8 + (1 : Int))) else none else none else none else F204c3 k x0 x1 x5 (IntKind.i64.wrap (x6 + (1 : Int))) := by kernel_rfl
theorem F206_eq (k : Nat) (a0 : List Int) (a1 : List Int) : F206 (k + 2) a0 a1 =
    if ((a0.length : Int) != (a1.length : Int)) = true then if (decide ((a0.length : Int) < (a1.length : Int))) = true then some (((-1 : Int), ()), ((), (), ())) else some (((1 : Int), ()), ((), (), ())) else F206c6 k a0 a1 (IntKind.i64.wrap ((a0.length : Int) - (1 : Int))) := by kernel_rfl
theorem F206c6_eq (k : Nat) (x0 : List Int) (x1 : List Int) (x5 : Int) : F206c6 (k + 1) x0 x1 x5 =
    if (decide (x5 ≥ (0 : Int))) = true then if (decide (0 ≤ x5)) = true then (x0[x5.toNat]?).bind fun y1 => if (decide (0 ≤ x5)) = true then (x1[x5.toNat]?).bind fun y2 => if (decide (y1 < y2)) = true then some (((-1 : Int), ()), ((), (), ())) else if (decide (0 ≤ x5)) = true then (x0[x5.toNat]?).bind fun y3 => if (decide (0 ≤ x5)) = true then (x1[x5.toNat]?).bind fun y4 => if (decide (y3 > y4)) = true then some (((1 : Int), ()), ((), (), ())) else F206c6 k x0 x1 (IntKind.i64.wrap (x5 - (1 : Int))) else none else none else none else none else some (((0 : Int), ()), ((), (), ())) := by kernel_rfl
theorem F207_eq (k : Nat) (a0 : Int) : F207 (k + 2) a0 =
    F207c2 k a0 ([] : List Int) := by kernel_rfl
theorem F207c2_eq (k : Nat) (x0 : Int) (x3 : List Int) : F207c2 (k + 1) x0 x3 =
    if (decide (x0 > (0 : Int))) = true then if (decide (x3.length + [(IntKind.i64.wrap (x0.tmod (10000 : Int)))].length ≤ 17592186044416)) = true then F207c2 k (IntKind.u64.wrap (x0.tdiv (10000 : Int))) (x3 ++ [(IntKind.i64.wrap (x0.tmod (10000 : Int)))]) else none else some ((x3, ()), ((), ())) := by kernel_rfl
theorem F224_eq (k : Nat) (a0 : List Int) : F224 (k + 2) a0 =
    F224c2 k a0 (a0.length : Int) := by kernel_rfl
theorem F224c2_eq (k : Nat) (x0 : List Int) (x3 : Int) : F224c2 (k + 1) x0 x3 =
    if (decide (x3 > (0 : Int))) = true then if (decide (0 ≤ (IntKind.i64.wrap (x3 - (1 : Int))))) = true then (x0[(IntKind.i64.wrap (x3 - (1 : Int))).toNat]?).bind fun y1 => if (y1 == (0 : Int)) = true then F224c2 k x0 (IntKind.i64.wrap (x3 - (1 : Int))) else if (decide (0 ≤ x3) && decide (x3 ≤ (x0.length : Int))) = true then if (decide (([] : List Int).length + (slices x0 0 x3.toNat).length ≤ 17592186044416)) = true then some (((([] : List Int) ++ (slices x0 0 x3.toNat)), ()), ((), ())) else none else none else none else if (decide (0 ≤ x3) && decide (x3 ≤ (x0.length : Int))) = true then if (decide (([] : List Int).length + (slices x0 0 x3.toNat).length ≤ 17592186044416)) = true then some (((([] : List Int) ++ (slices x0 0 x3.toNat)), ()), ((), ())) else none else none := by kernel_rfl
theorem F225_eq (k : Nat) (a0 : List Int) (a1 : List Int) : F225 (k + 2) a0 a1 =
    if (decide (0 ≤ (a0.length : Int)) && decide ((a0.length : Int) ≤ (a0.length : Int)) && decide ((a0.length : Int) ≤ (17592186044416 : Int))) = true then F225c4 k a0 a1 (List.replicate (a0.length : Int).toNat (0 : Int)) ([] : List Int) (IntKind.i64.wrap ((a0.length : Int) - (1 : Int))) else none := by kernel_rfl
theorem F225c4_eq (k : Nat) (x0 : List Int) (x1 : List Int) (x6 : List Int) (x7 : List Int) (x8 : Int) : F225c4 (k + 1) x0 x1 x6 x7 x8 =
    if (decide (x8 ≥ (0 : Int))) = true then if (decide (0 ≤ x8)) = true then (x0[x8.toNat]?).bind fun y1 => if (decide ([y1].length + x7.length ≤ 17592186044416)) = true then (F224 k ([y1] ++ x7)).bind fun r2 => (F238 k r2.1.1 x1).bind fun r3 => if (decide (0 ≤ x8) && decide (x8 < (x6.length : Int))) = true then (x6[x8.toNat]?).bind fun y4 => (F224 k [r3.1.1]).bind fun r5 => (F204 k x1 r5.1.1).bind fun r6 => (F239 k r2.1.1 r6.1.1).bind fun r7 => F225c4 k x0 x1 (x6.set x8.toNat r3.1.1) r7.1.1 (IntKind.i64.wrap (x8 - (1 : Int))) else none else none else none else (F224 k x6).bind fun r8 => some ((r8.1.1, x7, ()), ((), (), ())) := by kernel_rfl
theorem F227_eq (k : Nat) (a0 : List Int) : F227 (k + 2) a0 =
    bothK (emptyL a0) (some ((([] : List Int), ()), ((), ()))) (if (decide (([] : List Int).length + a0.length ≤ 17592186044416)) = true then some (((([] : List Int) ++ a0), ()), ((), ())) else none) := by kernel_rfl
theorem F228_eq (k : Nat) (a0 : List Int) (a1 : Int) : F228 (k + 2) a0 a1 =
    if (decide (a1 < (a0.length : Int))) = true then if (decide (0 ≤ a1)) = true then (a0[a1.toNat]?).bind fun y1 => some ((y1, ()), ((), (), ())) else none else some (((0 : Int), ()), ((), (), ())) := by kernel_rfl
theorem F238_eq (k : Nat) (a0 : List Int) (a1 : List Int) : F238 (k + 2) a0 a1 =
    F238c3 k a0 a1 (0 : Int) (10000 : Int) := by kernel_rfl
theorem F238c3_eq (k : Nat) (x0 : List Int) (x1 : List Int) (x5 : Int) (x6 : Int) : F238c3 (k + 1) x0 x1 x5 x6 =
    if (decide ((IntKind.i64.wrap (x6 - x5)) > (1 : Int))) = true then (F204 k x1 [(IntKind.i64.wrap ((IntKind.i64.wrap (x5 + x6)).tdiv (2 : Int)))]).bind fun r1 => (F206 k r1.1.1 x0).bind fun r2 => if (decide (r2.1.1 ≤ (0 : Int))) = true then F238c3 k x0 x1 (IntKind.i64.wrap ((IntKind.i64.wrap (x5 + x6)).tdiv (2 : Int))) x6 else F238c3 k x0 x1 x5 (IntKind.i64.wrap ((IntKind.i64.wrap (x5 + x6)).tdiv (2 : Int))) else some ((x5, ()), ((), (), ())) := by kernel_rfl
theorem F239_eq (k : Nat) (a0 : List Int) (a1 : List Int) : F239 (k + 2) a0 a1 =
    F239c4 k a0 a1 ([] : List Int) (0 : Int) (0 : Int) := by kernel_rfl
theorem F239c4_eq (k : Nat) (x0 : List Int) (x1 : List Int) (x5 : List Int) (x6 : Int) (x7 : Int) : F239c4 (k + 1) x0 x1 x5 x6 x7 =
    if (decide (x7 < (x0.length : Int))) = true then if (decide (0 ≤ x7)) = true then (x0[x7.toNat]?).bind fun y1 => (F228 k x1 x7).bind fun r2 => if (decide ((IntKind.i64.wrap ((IntKind.i64.wrap (y1 - r2.1.1)) - x6)) < (0 : Int))) = true then F239c11 k x0 x1 x5 (1 : Int) x7 (IntKind.i64.wrap ((IntKind.i64.wrap ((IntKind.i64.wrap (y1 - r2.1.1)) - x6)) + (10000 : Int))) else F239c11 k x0 x1 x5 (0 : Int) x7 (IntKind.i64.wrap ((IntKind.i64.wrap (y1 - r2.1.1)) - x6)) else none else (F224 k x5).bind fun r3 => some ((r3.1.1, ()), ((), (), ())) := by kernel_rfl
theorem F239c11_eq (k : Nat) (x0 : List Int) (x1 : List Int) (x5 : List Int) (x6 : Int) (x7 : Int) (x8 : Int) : F239c11 (k + 1) x0 x1 x5 x6 x7 x8 =
    if (decide (x5.length + [x8].length ≤ 17592186044416)) = true then F239c4 k x0 x1 (x5 ++ [x8]) x6 (IntKind.i64.wrap (x7 + (1 : Int))) else none := by kernel_rfl
theorem F156058_eq (k : Nat) (a0 : List Int) : F156058 (k + 2) a0 =
    (F156106 k a0).bind fun r1 => some ((decide (r1.1.1 ≥ (0 : Int)), ()), ((), (), ())) := by kernel_rfl
theorem F156106_eq (k : Nat) (a0 : List Int) : F156106 (k + 2) a0 =
    F156106c2 k a0 (a0.length : Int) (0 : Int) := by kernel_rfl
theorem F156106c2_eq (k : Nat) (x0 : List Int) (x7 : Int) (x8 : Int) : F156106c2 (k + 1) x0 x7 x8 =
    if (decide (x8 < x7)) = true then if (decide (0 ≤ x8)) = true then (x0[x8.toNat]?).bind fun y1 => (F155 k y1).bind fun r2 => if r2.1.1 = true then some ((x8, ()), ((), (), ())) else F156106c2 k x0 x7 (IntKind.i64.wrap (x8 + (1 : Int))) else none else some (((-1 : Int), ()), ((), (), ())) := by kernel_rfl
theorem F1018165_eq (k : Nat) (a0 : Int) (a1 : Int) (a2_0 : List Int) (a3_0 : List Int) (a4_0 : List Int) : F1018165 (k + 1) a0 a1 a2_0 a3_0 a4_0 =
    if (decide ([a1].length + a4_0.length ≤ 17592186044416)) = true then (F139 k ([a1] ++ a4_0)).bind fun r1 => F1018165c8 k a2_0 a3_0 r1.1.1 a0 (0 : Int) (9999 : Int) else none := by kernel_rfl
theorem F1018165c8_eq (k : Nat) (x3_0 : List Int) (x6_0 : List Int) (x7_0 : List Int) (x8 : Int) (x10 : Int) (x11 : Int) : F1018165c8 (k + 1) x3_0 x6_0 x7_0 x8 x10 x11 =
    if (decide (x10 < x11)) = true then (F207 k (IntKind.u64.wrap (IntKind.i64.wrap ((IntKind.i64.wrap ((IntKind.i64.wrap (x10 + x11)) + (1 : Int))).tdiv (2 : Int))))).bind fun r2 => (F196 k x3_0 r2.1.1).bind fun r3 => (F199 k r3.1.1 x7_0).bind fun r4 => if (decide (r4.1.1 ≤ (0 : Int))) = true then F1018165c8 k x3_0 x6_0 x7_0 x8 (IntKind.i64.wrap ((IntKind.i64.wrap ((IntKind.i64.wrap (x10 + x11)) + (1 : Int))).tdiv (2 : Int))) x11 else F1018165c8 k x3_0 x6_0 x7_0 x8 x10 (IntKind.i64.wrap ((IntKind.i64.wrap ((IntKind.i64.wrap ((IntKind.i64.wrap (x10 + x11)) + (1 : Int))).tdiv (2 : Int))) - (1 : Int))) else if (decide (0 ≤ x8) && decide (x8 < (x6_0.length : Int))) = true then (x6_0[x8.toNat]?).bind fun y5 => (F207 k (IntKind.u64.wrap x10)).bind fun r6 => (F196 k x3_0 r6.1.1).bind fun r7 => (F200 k x7_0 r7.1.1).bind fun r8 => some ((), ((), (), (x3_0, ()), (x6_0.set x8.toNat x10, ()), (r8.1.1, ()), ())) else none := by kernel_rfl
end Go.Proofs.YtiojgdjpigcgaaaGreatDoor.R
end

section
/-! Rf: what is to be shown of a law, with no machine in sight. -/
set_option autoImplicit false
namespace Go.Proofs.YtiojgdjpigcgaaaGreatDoor.R
open Go.Rf
def PureFnExactKeyGet : Prop := ∀ (a0 : ByteArray) (a1 : Bool), wfT .str a0 → wfT .bool a1 → ∃ k p, F4 k a0 a1 = some ((true, ()), p)
end Go.Proofs.YtiojgdjpigcgaaaGreatDoor.R
end

section
namespace Go.Proofs
open Go.Shelf
def Tryz.lays169_ren : Go.Shelf.Ren := ⟨fun | 169 => 138 | n => n, fun | 70 => 148 | 9 => 9 | 0 => 0 | 72 => 150 | 37 => 22 | 127 => 195 | 3 => 3 | 5 => 5 | n => n, fun | n => n⟩
theorem Tryz.lays169 : Go.Proofs.Lays.n169 Tryz.prog Tryz.lays169_ren := {
  mixed := by kernel_rfl
  f169 := Tryz.func138.trans (congrArg some (by kernel_rfl))
  t0 := Tryz.underlying0
  a0 := Tryz.isAgg0
  z0 := Tryz.sizeOf0
  v0 := Tryz.zeroValue0
  t3 := Tryz.underlying3
  a3 := Tryz.isAgg3
  z3 := Tryz.sizeOf3
  v3 := Tryz.zeroValue3
  t9 := Tryz.underlying9
  a9 := Tryz.isAgg9
  z9 := Tryz.sizeOf9
  v9 := Tryz.zeroValue9
  t37 := Tryz.underlying22
  a37 := Tryz.isAgg22
  z37 := Tryz.sizeOf22
  v37 := Tryz.zeroValue22
  t70 := Tryz.underlying148
  a70 := Tryz.isAgg148
  z70 := Tryz.sizeOf148
  v70 := Tryz.zeroValue148
  t72 := Tryz.underlying150
  a72 := Tryz.isAgg150
  z72 := Tryz.sizeOf150
  v72 := Tryz.zeroValue150
  t127 := Tryz.underlying195
  a127 := Tryz.isAgg195
  z127 := Tryz.sizeOf195
  v127 := Tryz.zeroValue195 }
theorem Tryz.Builder_Extra_169 : Builder.Extra Tryz.prog Tryz.lays169_ren := {
  sizeBuilder := by kernel_rfl
  liesBuilder := by kernel_rfl
  t5 := Tryz.underlying5
  a5 := Tryz.isAgg5
  z5 := Tryz.sizeOf5
  v5 := Tryz.zeroValue5
  infoByte := by kernel_rfl
  cellsByte := by kernel_rfl
  sizeByte := by kernel_rfl
  neB5 := by decide }
def Tryz.lays162_ren : Go.Shelf.Ren := ⟨fun | 162 => 130 | 232 => 168 | 227 => 169 | 234 => 170 | 236 => 171 | 228 => 210 | 271 => 211 | 151 => 212 | 120 => 230 | 197 => 231 | 152 => 232 | 260 => 244 | 137 => 245 | 119 => 246 | 224 => 184 | 225 => 183 | 217 => 182 | 266 => 220 | n => n, fun | 9 => 9 | 4 => 4 | 3 => 3 | 5 => 5 | 117 => 183 | 116 => 182 | 0 => 0 | 124 => 186 | 21 => 21 | 105 => 212 | 46 => 113 | 119 => 249 | 139 => 252 | 138 => 251 | n => n, fun | 3 => 4 | 4 => 5 | n => n⟩
theorem Tryz.lays162 : Go.Proofs.Lays.n162 Tryz.prog Tryz.lays162_ren := {
  mixed := by kernel_rfl
  f119 := Tryz.func246.trans (congrArg some (by kernel_rfl))
  f120 := Tryz.func230.trans (congrArg some (by kernel_rfl))
  f137 := Tryz.func245.trans (congrArg some (by kernel_rfl))
  f151 := Tryz.func212.trans (congrArg some (by kernel_rfl))
  f152 := Tryz.func232.trans (congrArg some (by kernel_rfl))
  f162 := Tryz.func130.trans (congrArg some (by kernel_rfl))
  f197 := Tryz.func231.trans (congrArg some (by kernel_rfl))
  f217 := Tryz.func182.trans (congrArg some (by kernel_rfl))
  f224 := Tryz.func184.trans (congrArg some (by kernel_rfl))
  f225 := Tryz.func183.trans (congrArg some (by kernel_rfl))
  f227 := Tryz.func169.trans (congrArg some (by kernel_rfl))
  f228 := Tryz.func210.trans (congrArg some (by kernel_rfl))
  f232 := Tryz.func168.trans (congrArg some (by kernel_rfl))
  f234 := Tryz.func170.trans (congrArg some (by kernel_rfl))
  f236 := Tryz.func171.trans (congrArg some (by kernel_rfl))
  f260 := Tryz.func244.trans (congrArg some (by kernel_rfl))
  f266 := Tryz.func220.trans (congrArg some (by kernel_rfl))
  f271 := Tryz.func211.trans (congrArg some (by kernel_rfl))
  t0 := Tryz.underlying0
  a0 := Tryz.isAgg0
  z0 := Tryz.sizeOf0
  v0 := Tryz.zeroValue0
  t3 := Tryz.underlying3
  a3 := Tryz.isAgg3
  z3 := Tryz.sizeOf3
  v3 := Tryz.zeroValue3
  t4 := Tryz.underlying4
  a4 := Tryz.isAgg4
  z4 := Tryz.sizeOf4
  v4 := Tryz.zeroValue4
  t5 := Tryz.underlying5
  a5 := Tryz.isAgg5
  z5 := Tryz.sizeOf5
  v5 := Tryz.zeroValue5
  t9 := Tryz.underlying9
  a9 := Tryz.isAgg9
  z9 := Tryz.sizeOf9
  v9 := Tryz.zeroValue9
  t21 := Tryz.underlying21
  a21 := Tryz.isAgg21
  z21 := Tryz.sizeOf21
  v21 := Tryz.zeroValue21
  t46 := Tryz.underlying113
  a46 := Tryz.isAgg113
  z46 := Tryz.sizeOf113
  v46 := Tryz.zeroValue113
  t105 := Tryz.underlying212
  a105 := Tryz.isAgg212
  z105 := Tryz.sizeOf212
  v105 := Tryz.zeroValue212
  t116 := Tryz.underlying182
  a116 := Tryz.isAgg182
  z116 := Tryz.sizeOf182
  t117 := Tryz.underlying183
  a117 := Tryz.isAgg183
  z117 := Tryz.sizeOf183
  v117 := Tryz.zeroValue183
  t119 := Tryz.underlying249
  a119 := Tryz.isAgg249
  z119 := Tryz.sizeOf249
  t124 := Tryz.underlying186
  a124 := Tryz.isAgg186
  z124 := Tryz.sizeOf186
  v124 := Tryz.zeroValue186
  t138 := Tryz.underlying251
  a138 := Tryz.isAgg251
  z138 := Tryz.sizeOf251
  v138 := Tryz.zeroValue251
  t139 := Tryz.underlying252
  a139 := Tryz.isAgg252
  z139 := Tryz.sizeOf252
  v139 := Tryz.zeroValue252
  g3 := by kernel_rfl
  g4 := by kernel_rfl }
open Go.RowKit in
/-- strings.TrimRight: "TrimRight returns a slice of the string s, with all trailing Unicode code points contained in cutset removed.": AT A cutset OF ONE ASCII BYTE. The world is as it was. (LAID: no walk: one application.) -/
theorem Tryz.strings_TrimRight_one (s : ByteArray) (c : UInt8) (hc : c.toNat < 128) (w : World) (hs : s.size ≤ 9223372036854775807) :
    Calls Tryz.prog 130 #[.string s, .string ⟨#[c]⟩] w fun e w' => e = .returned (.string ⟨(Lib.trimRightB s.data.toList c).toArray⟩) ∧ w' = w := Any.strings_TrimRight_one Tryz.lays162 s c hc w hs
open Go.RowKit in
/-- (*strings.Builder).String: "String returns the accumulated string.": WHATEVER THE BUILDER HOLDS; THE FORM '_k': OVER 'Lib.IsBuilderF' (a builder that 'String()' may have read), AND WITH THE FRAME THAT REACHES ABOVE THE BUILDER: 'Lib.OthersKept': every block that is not b and is no row of uint8's stands as it stood: the iterator of a range among them. (LAID: no walk: one application.) -/
theorem Tryz.Builder_String_any_k (B b : Nat) (l : List UInt8) (w : World) (h : Lib.IsBuilderF 150 5 B b (Lib.byteCells l) w) (hBw : B ≤ w.heap.size) :
    Calls Tryz.prog 138 #[.pointer (some ⟨b, 0, none⟩)] w fun e w' => e = .returned (.string ⟨l.toArray⟩) ∧ (Lib.IsBuilderF 150 5 B b (Lib.byteCells l) w' ∧ Below B w w' ∧ Lib.OthersKept 5 (some b) w w') := Any.Builder_String_any_k Tryz.lays169 Tryz.Builder_Extra_169 B b l w h hBw
def Tryz.lays172_ren : Go.Shelf.Ren := ⟨fun | 172 => 141 | 244 => 180 | 245 => 181 | 247 => 215 | 279 => 216 | 280 => 217 | 281 => 218 | 282 => 219 | 287 => 233 | 316 => 234 | 171 => 167 | 205 => 235 | 321 => 247 | 322 => 248 | 243 => 209 | 246 => 229 | 283 => 240 | 284 => 241 | 285 => 242 | 286 => 243 | 129 => 250 | 317 => 249 | 318 => 251 | 319 => 252 | 320 => 253 | 337 => 254 | 338 => 255 | n => n, fun | 9 => 9 | 3 => 3 | 75 => 153 | 76 => 154 | 4 => 4 | 5 => 5 | 167 => 217 | 37 => 22 | 0 => 0 | 85 => 218 | 2 => 2 | 168 => 220 | 53 => 192 | 175 => 230 | 46 => 113 | 210 => 233 | 127 => 195 | 145 => 245 | 143 => 243 | 21 => 21 | 171 => 236 | 173 => 239 | 212 => 246 | 51 => 189 | 20 => 20 | 213 => 247 | 232 => 254 | 233 => 255 | 80 => 141 | n => n, fun | 15 => 1 | 16 => 2 | 17 => 3 | 18 => 6 | 19 => 7 | n => n⟩
theorem Tryz.lays172 : Go.Proofs.Lays.n172 Tryz.prog Tryz.lays172_ren := {
  mixed := by kernel_rfl
  f129 := Tryz.func250.trans (congrArg some (by kernel_rfl))
  f171 := Tryz.func167.trans (congrArg some (by kernel_rfl))
  f172 := Tryz.func141.trans (congrArg some (by kernel_rfl))
  f205 := Tryz.func235.trans (congrArg some (by kernel_rfl))
  f243 := Tryz.func209.trans (congrArg some (by kernel_rfl))
  f244 := Tryz.func180.trans (congrArg some (by kernel_rfl))
  f245 := Tryz.func181.trans (congrArg some (by kernel_rfl))
  f246 := Tryz.func229.trans (congrArg some (by kernel_rfl))
  f247 := Tryz.func215.trans (congrArg some (by kernel_rfl))
  f279 := Tryz.func216.trans (congrArg some (by kernel_rfl))
  f280 := Tryz.func217.trans (congrArg some (by kernel_rfl))
  f281 := Tryz.func218.trans (congrArg some (by kernel_rfl))
  f282 := Tryz.func219.trans (congrArg some (by kernel_rfl))
  f283 := Tryz.func240.trans (congrArg some (by kernel_rfl))
  f284 := Tryz.func241.trans (congrArg some (by kernel_rfl))
  f285 := Tryz.func242.trans (congrArg some (by kernel_rfl))
  f286 := Tryz.func243.trans (congrArg some (by kernel_rfl))
  f287 := Tryz.func233.trans (congrArg some (by kernel_rfl))
  f316 := Tryz.func234.trans (congrArg some (by kernel_rfl))
  f317 := Tryz.func249.trans (congrArg some (by kernel_rfl))
  f318 := Tryz.func251.trans (congrArg some (by kernel_rfl))
  f319 := Tryz.func252.trans (congrArg some (by kernel_rfl))
  f320 := Tryz.func253.trans (congrArg some (by kernel_rfl))
  f321 := Tryz.func247.trans (congrArg some (by kernel_rfl))
  f322 := Tryz.func248.trans (congrArg some (by kernel_rfl))
  f337 := Tryz.func254.trans (congrArg some (by kernel_rfl))
  f338 := Tryz.func255.trans (congrArg some (by kernel_rfl))
  t0 := Tryz.underlying0
  a0 := Tryz.isAgg0
  z0 := Tryz.sizeOf0
  v0 := Tryz.zeroValue0
  t2 := Tryz.underlying2
  a2 := Tryz.isAgg2
  z2 := Tryz.sizeOf2
  v2 := Tryz.zeroValue2
  t3 := Tryz.underlying3
  a3 := Tryz.isAgg3
  z3 := Tryz.sizeOf3
  v3 := Tryz.zeroValue3
  t4 := Tryz.underlying4
  a4 := Tryz.isAgg4
  z4 := Tryz.sizeOf4
  v4 := Tryz.zeroValue4
  t5 := Tryz.underlying5
  a5 := Tryz.isAgg5
  z5 := Tryz.sizeOf5
  v5 := Tryz.zeroValue5
  t9 := Tryz.underlying9
  a9 := Tryz.isAgg9
  z9 := Tryz.sizeOf9
  v9 := Tryz.zeroValue9
  t20 := Tryz.underlying20
  a20 := Tryz.isAgg20
  z20 := Tryz.sizeOf20
  v20 := Tryz.zeroValue20
  t21 := Tryz.underlying21
  a21 := Tryz.isAgg21
  z21 := Tryz.sizeOf21
  v21 := Tryz.zeroValue21
  t37 := Tryz.underlying22
  a37 := Tryz.isAgg22
  z37 := Tryz.sizeOf22
  v37 := Tryz.zeroValue22
  t46 := Tryz.underlying113
  a46 := Tryz.isAgg113
  z46 := Tryz.sizeOf113
  v46 := Tryz.zeroValue113
  t51 := Tryz.underlying189
  a51 := Tryz.isAgg189
  z51 := Tryz.sizeOf189
  v51 := Tryz.zeroValue189
  t53 := Tryz.underlying192
  a53 := Tryz.isAgg192
  z53 := Tryz.sizeOf192
  v53 := Tryz.zeroValue192
  t75 := Tryz.underlying153
  a75 := Tryz.isAgg153
  z75 := Tryz.sizeOf153
  v75 := Tryz.zeroValue153
  t76 := Tryz.underlying154
  a76 := Tryz.isAgg154
  z76 := Tryz.sizeOf154
  v76 := Tryz.zeroValue154
  t85 := Tryz.underlying218
  a85 := Tryz.isAgg218
  z85 := Tryz.sizeOf218
  v85 := Tryz.zeroValue218
  t127 := Tryz.underlying195
  a127 := Tryz.isAgg195
  z127 := Tryz.sizeOf195
  v127 := Tryz.zeroValue195
  t143 := Tryz.underlying243
  a143 := Tryz.isAgg243
  z143 := Tryz.sizeOf243
  v143 := Tryz.zeroValue243
  t145 := Tryz.underlying245
  a145 := Tryz.isAgg245
  z145 := Tryz.sizeOf245
  v145 := Tryz.zeroValue245
  t167 := Tryz.underlying217
  a167 := Tryz.isAgg217
  z167 := Tryz.sizeOf217
  v167 := Tryz.zeroValue217
  t168 := Tryz.underlying220
  a168 := Tryz.isAgg220
  z168 := Tryz.sizeOf220
  v168 := Tryz.zeroValue220
  t171 := Tryz.underlying236
  a171 := Tryz.isAgg236
  z171 := Tryz.sizeOf236
  v171 := Tryz.zeroValue236
  t173 := Tryz.underlying239
  a173 := Tryz.isAgg239
  z173 := Tryz.sizeOf239
  v173 := Tryz.zeroValue239
  t175 := Tryz.underlying230
  a175 := Tryz.isAgg230
  z175 := Tryz.sizeOf230
  v175 := Tryz.zeroValue230
  t210 := Tryz.underlying233
  a210 := Tryz.isAgg233
  z210 := Tryz.sizeOf233
  v210 := Tryz.zeroValue233
  t212 := Tryz.underlying246
  a212 := Tryz.isAgg246
  z212 := Tryz.sizeOf246
  v212 := Tryz.zeroValue246
  t213 := Tryz.underlying247
  a213 := Tryz.isAgg247
  z213 := Tryz.sizeOf247
  t232 := Tryz.underlying254
  a232 := Tryz.isAgg254
  z232 := Tryz.sizeOf254
  v232 := Tryz.zeroValue254
  t233 := Tryz.underlying255
  a233 := Tryz.isAgg255
  z233 := Tryz.sizeOf255
  v233 := Tryz.zeroValue255
  g15 := by kernel_rfl
  g16 := by kernel_rfl
  g17 := by kernel_rfl
  g18 := by kernel_rfl
  g19 := by kernel_rfl }
open Go.RowKit in
/-- strconv.Atoi: "Atoi is equivalent to ParseInt(s, 10, 0), converted to type int.": AT A DECIMAL NUMERAL OF AT MOST 18 BYTES: its value, and a nil error. The world behind the call: the one new row that the library's '[]byte(s)' lays. (LAID: no walk: one application.) -/
theorem Tryz.strconv_Atoi (s : ByteArray) (n : Int) (hl : s.size ≤ 18) (h : Lib.atoi s.data.toList = some n) (w : World) :
    Calls Tryz.prog 141 #[.string s] w fun e w' => e = .returned (.tuple #[.int .i64 n, .nilIface]) ∧ ∃ t, w' = Lib.bytesWorld w 5 t := Any.strconv_Atoi Tryz.lays172 s n hl h w
def Tryz.laysM171_ren : Go.Shelf.Ren := ⟨fun | 171 => 167 | 243 => 209 | 246 => 229 | 283 => 240 | 284 => 241 | 285 => 242 | 286 => 243 | 129 => 250 | 317 => 249 | 318 => 251 | 319 => 252 | 320 => 253 | 337 => 254 | 338 => 255 | n => n, fun | 3 => 3 | 9 => 9 | 2 => 2 | 4 => 4 | 171 => 236 | 0 => 0 | 53 => 192 | 37 => 22 | 5 => 5 | 173 => 239 | 212 => 246 | 51 => 189 | 20 => 20 | 213 => 247 | 46 => 113 | 232 => 254 | 233 => 255 | n => n, fun | 17 => 3 | 18 => 6 | 19 => 7 | n => n⟩
theorem Tryz.laysM171 : Go.Proofs.LaysM.n171 Tryz.prog Tryz.laysM171_ren := {
  mixed := by kernel_rfl
  f129 := Tryz.func250.trans (congrArg some (by kernel_rfl))
  f171 := Tryz.func167.trans (congrArg some (by kernel_rfl))
  f243 := Tryz.func209.trans (congrArg some (by kernel_rfl))
  f246 := Tryz.func229.trans (congrArg some (by kernel_rfl))
  f283 := Tryz.func240.trans (congrArg some (by kernel_rfl))
  f284 := Tryz.func241.trans (congrArg some (by kernel_rfl))
  f285 := Tryz.func242.trans (congrArg some (by kernel_rfl))
  f286 := Tryz.func243.trans (congrArg some (by kernel_rfl))
  f317 := Tryz.func249.trans (congrArg some (by kernel_rfl))
  f318 := Tryz.func251.trans (congrArg some (by kernel_rfl))
  f319 := Tryz.func252.trans (congrArg some (by kernel_rfl))
  f320 := Tryz.func253.trans (congrArg some (by kernel_rfl))
  f337 := Tryz.func254.trans (congrArg some (by kernel_rfl))
  f338 := Tryz.func255.trans (congrArg some (by kernel_rfl))
  t0 := Tryz.underlying0
  a0 := Tryz.isAgg0
  z0 := Tryz.sizeOf0
  v0 := Tryz.zeroValue0
  t2 := Tryz.underlying2
  a2 := Tryz.isAgg2
  z2 := Tryz.sizeOf2
  v2 := Tryz.zeroValue2
  t3 := Tryz.underlying3
  a3 := Tryz.isAgg3
  z3 := Tryz.sizeOf3
  v3 := Tryz.zeroValue3
  t4 := Tryz.underlying4
  a4 := Tryz.isAgg4
  z4 := Tryz.sizeOf4
  v4 := Tryz.zeroValue4
  t5 := Tryz.underlying5
  a5 := Tryz.isAgg5
  z5 := Tryz.sizeOf5
  v5 := Tryz.zeroValue5
  t9 := Tryz.underlying9
  a9 := Tryz.isAgg9
  z9 := Tryz.sizeOf9
  v9 := Tryz.zeroValue9
  t20 := Tryz.underlying20
  a20 := Tryz.isAgg20
  z20 := Tryz.sizeOf20
  v20 := Tryz.zeroValue20
  t37 := Tryz.underlying22
  a37 := Tryz.isAgg22
  z37 := Tryz.sizeOf22
  v37 := Tryz.zeroValue22
  t46 := Tryz.underlying113
  a46 := Tryz.isAgg113
  z46 := Tryz.sizeOf113
  v46 := Tryz.zeroValue113
  t51 := Tryz.underlying189
  a51 := Tryz.isAgg189
  z51 := Tryz.sizeOf189
  v51 := Tryz.zeroValue189
  t53 := Tryz.underlying192
  a53 := Tryz.isAgg192
  z53 := Tryz.sizeOf192
  v53 := Tryz.zeroValue192
  t171 := Tryz.underlying236
  a171 := Tryz.isAgg236
  z171 := Tryz.sizeOf236
  v171 := Tryz.zeroValue236
  t173 := Tryz.underlying239
  a173 := Tryz.isAgg239
  z173 := Tryz.sizeOf239
  v173 := Tryz.zeroValue239
  t212 := Tryz.underlying246
  a212 := Tryz.isAgg246
  z212 := Tryz.sizeOf246
  v212 := Tryz.zeroValue246
  t213 := Tryz.underlying247
  a213 := Tryz.isAgg247
  z213 := Tryz.sizeOf247
  t232 := Tryz.underlying254
  a232 := Tryz.isAgg254
  z232 := Tryz.sizeOf254
  v232 := Tryz.zeroValue254
  t233 := Tryz.underlying255
  a233 := Tryz.isAgg255
  z233 := Tryz.sizeOf255
  v233 := Tryz.zeroValue255
  g17 := by kernel_rfl
  g18 := by kernel_rfl
  g19 := by kernel_rfl
  i0 := by kernel_rfl
  i2 := by kernel_rfl
  i3 := by kernel_rfl
  i4 := by kernel_rfl
  i5 := by kernel_rfl
  i9 := by kernel_rfl
  i20 := by kernel_rfl
  i37 := by kernel_rfl
  i46 := by kernel_rfl
  i51 := by kernel_rfl
  i53 := by kernel_rfl
  i171 := by kernel_rfl
  i173 := by kernel_rfl
  i212 := by kernel_rfl
  i232 := by kernel_rfl
  i233 := by kernel_rfl
  m17 := by kernel_rfl
  m18 := by kernel_rfl
  m19 := by kernel_rfl }
open Go.RowKit Go.Sort Go.Lib in
/-- strconv.Itoa: "Itoa is equivalent to FormatInt(int64(i), 10).": i's DECIMAL NUMERAL ('Lib.itoa': a '-' where i is negative, then the digits), FOR EVERY int. The world behind the call: the world before it, new blocks behind the heap (the library's 'var a [24]byte'), draws. (LAID: no walk: one application.) -/
theorem Tryz.strconv_Itoa (n : Int) (h0 : -9223372036854775808 ≤ n) (h1 : n ≤ 9223372036854775807) (w : World) (htab : Lib.TabIs Tryz.prog w "internal/strconv.uint64pow10" .u64 Lib.pow10Tab) :
    Calls Tryz.prog 167 #[.int .i64 n] w fun e w' => e = .returned (.string ⟨(Lib.itoa n).toArray⟩) ∧ ∃ k os, w' = grow (w.drewN k) os := Any.strconv_Itoa Tryz.laysM171 n h0 h1 w htab
def Tryz.lays145_ren : Go.Shelf.Ren := ⟨fun | 145 => 43 | 220 => 93 | 219 => 142 | 217 => 182 | 225 => 183 | 224 => 184 | 267 => 185 | 266 => 220 | 314 => 221 | n => n, fun | 9 => 9 | 4 => 4 | 59 => 74 | 3 => 3 | 5 => 5 | 46 => 113 | 146 => 190 | 51 => 189 | n => n, fun | 1 => 0 | n => n⟩
theorem Tryz.lays145 : Go.Proofs.Lays.n145 Tryz.prog Tryz.lays145_ren := {
  mixed := by kernel_rfl
  f145 := Tryz.func43.trans (congrArg some (by kernel_rfl))
  f217 := Tryz.func182.trans (congrArg some (by kernel_rfl))
  f219 := Tryz.func142.trans (congrArg some (by kernel_rfl))
  f220 := Tryz.func93.trans (congrArg some (by kernel_rfl))
  f224 := Tryz.func184.trans (congrArg some (by kernel_rfl))
  f225 := Tryz.func183.trans (congrArg some (by kernel_rfl))
  f266 := Tryz.func220.trans (congrArg some (by kernel_rfl))
  f267 := Tryz.func185.trans (congrArg some (by kernel_rfl))
  f314 := Tryz.func221.trans (congrArg some (by kernel_rfl))
  t3 := Tryz.underlying3
  a3 := Tryz.isAgg3
  z3 := Tryz.sizeOf3
  v3 := Tryz.zeroValue3
  t4 := Tryz.underlying4
  a4 := Tryz.isAgg4
  z4 := Tryz.sizeOf4
  v4 := Tryz.zeroValue4
  t5 := Tryz.underlying5
  a5 := Tryz.isAgg5
  z5 := Tryz.sizeOf5
  v5 := Tryz.zeroValue5
  t9 := Tryz.underlying9
  a9 := Tryz.isAgg9
  z9 := Tryz.sizeOf9
  v9 := Tryz.zeroValue9
  t46 := Tryz.underlying113
  a46 := Tryz.isAgg113
  z46 := Tryz.sizeOf113
  v46 := Tryz.zeroValue113
  t51 := Tryz.underlying189
  a51 := Tryz.isAgg189
  z51 := Tryz.sizeOf189
  v51 := Tryz.zeroValue189
  t59 := Tryz.underlying74
  a59 := Tryz.isAgg74
  z59 := Tryz.sizeOf74
  v59 := Tryz.zeroValue74
  t146 := Tryz.underlying190
  a146 := Tryz.isAgg190
  z146 := Tryz.sizeOf190
  v146 := Tryz.zeroValue190
  g1 := by kernel_rfl }
open Go.RowKit Go.Lib in
/-- strings.Cut: "Cut slices s around the first instance of sep, returning the text before and after sep. The found result reports whether sep appears in s. If sep does not appear in s, cut returns s, "", false.": IT RETURNS 'Lib.cut s sep'; the world is as it was but for the count of draws. (LAID: no walk: one application.) -/
theorem Tryz.strings_Cut (s sep : ByteArray) (m : Int) (w : World) (hs : s.size < 4294967281) (hm : w.cell? ⟨0, 0, none⟩ = some (.int .i64 m)) :
    Calls Tryz.prog 43 #[.string s, .string sep] w fun e w' => e = .returned (.tuple #[.string ⟨(Lib.cut s.data.toList sep.data.toList).1.toArray⟩, .string ⟨(Lib.cut s.data.toList sep.data.toList).2.1.toArray⟩, .bool (Lib.cut s.data.toList sep.data.toList).2.2]) ∧ ∃ n, w' = w.drewN n := Any.strings_Cut Tryz.lays145 s sep m w hs hm
def Tryz.lays105_ren : Go.Shelf.Ren := ⟨fun | 105 => 90 | 212 => 134 | 99 => 44 | 165 => 135 | 166 => 136 | 170 => 137 | 169 => 138 | 263 => 174 | 264 => 175 | 206 => 94 | 240 => 176 | 241 => 177 | 276 => 213 | 277 => 214 | n => n, fun | 9 => 9 | 3 => 3 | 4 => 4 | 20 => 20 | 0 => 0 | 46 => 113 | 109 => 146 | 5 => 5 | 72 => 150 | 76 => 154 | 51 => 189 | 146 => 190 | 53 => 192 | 148 => 193 | 70 => 148 | 37 => 22 | 75 => 153 | 127 => 195 | 164 => 215 | 80 => 141 | n => n, fun | n => n⟩
theorem Tryz.lays105 : Go.Proofs.Lays.n105 Tryz.prog Tryz.lays105_ren := {
  mixed := by kernel_rfl
  f99 := Tryz.func44.trans (congrArg some (by kernel_rfl))
  f105 := Tryz.func90.trans (congrArg some (by kernel_rfl))
  f165 := Tryz.func135.trans (congrArg some (by kernel_rfl))
  f166 := Tryz.func136.trans (congrArg some (by kernel_rfl))
  f169 := Tryz.func138.trans (congrArg some (by kernel_rfl))
  f170 := Tryz.func137.trans (congrArg some (by kernel_rfl))
  f206 := Tryz.func94.trans (congrArg some (by kernel_rfl))
  f212 := Tryz.func134.trans (congrArg some (by kernel_rfl))
  f240 := Tryz.func176.trans (congrArg some (by kernel_rfl))
  f241 := Tryz.func177.trans (congrArg some (by kernel_rfl))
  f263 := Tryz.func174.trans (congrArg some (by kernel_rfl))
  f264 := Tryz.func175.trans (congrArg some (by kernel_rfl))
  f276 := Tryz.func213.trans (congrArg some (by kernel_rfl))
  f277 := Tryz.func214.trans (congrArg some (by kernel_rfl))
  t0 := Tryz.underlying0
  a0 := Tryz.isAgg0
  z0 := Tryz.sizeOf0
  v0 := Tryz.zeroValue0
  t3 := Tryz.underlying3
  a3 := Tryz.isAgg3
  z3 := Tryz.sizeOf3
  v3 := Tryz.zeroValue3
  t4 := Tryz.underlying4
  a4 := Tryz.isAgg4
  z4 := Tryz.sizeOf4
  v4 := Tryz.zeroValue4
  t5 := Tryz.underlying5
  a5 := Tryz.isAgg5
  z5 := Tryz.sizeOf5
  v5 := Tryz.zeroValue5
  t9 := Tryz.underlying9
  a9 := Tryz.isAgg9
  z9 := Tryz.sizeOf9
  v9 := Tryz.zeroValue9
  t20 := Tryz.underlying20
  a20 := Tryz.isAgg20
  z20 := Tryz.sizeOf20
  v20 := Tryz.zeroValue20
  t37 := Tryz.underlying22
  a37 := Tryz.isAgg22
  z37 := Tryz.sizeOf22
  v37 := Tryz.zeroValue22
  t46 := Tryz.underlying113
  a46 := Tryz.isAgg113
  z46 := Tryz.sizeOf113
  v46 := Tryz.zeroValue113
  t51 := Tryz.underlying189
  a51 := Tryz.isAgg189
  z51 := Tryz.sizeOf189
  v51 := Tryz.zeroValue189
  t53 := Tryz.underlying192
  a53 := Tryz.isAgg192
  z53 := Tryz.sizeOf192
  v53 := Tryz.zeroValue192
  t70 := Tryz.underlying148
  a70 := Tryz.isAgg148
  z70 := Tryz.sizeOf148
  v70 := Tryz.zeroValue148
  t72 := Tryz.underlying150
  a72 := Tryz.isAgg150
  z72 := Tryz.sizeOf150
  v72 := Tryz.zeroValue150
  t75 := Tryz.underlying153
  a75 := Tryz.isAgg153
  z75 := Tryz.sizeOf153
  v75 := Tryz.zeroValue153
  t76 := Tryz.underlying154
  a76 := Tryz.isAgg154
  z76 := Tryz.sizeOf154
  v76 := Tryz.zeroValue154
  t109 := Tryz.underlying146
  a109 := Tryz.isAgg146
  z109 := Tryz.sizeOf146
  v109 := Tryz.zeroValue146
  t127 := Tryz.underlying195
  a127 := Tryz.isAgg195
  z127 := Tryz.sizeOf195
  v127 := Tryz.zeroValue195
  t146 := Tryz.underlying190
  a146 := Tryz.isAgg190
  z146 := Tryz.sizeOf190
  v146 := Tryz.zeroValue190
  t148 := Tryz.underlying193
  a148 := Tryz.isAgg193
  z148 := Tryz.sizeOf193
  v148 := Tryz.zeroValue193
  t164 := Tryz.underlying215
  a164 := Tryz.isAgg215
  z164 := Tryz.sizeOf215
  v164 := Tryz.zeroValue215 }
theorem Tryz.Builder_Extra_105 : Builder.Extra Tryz.prog Tryz.lays105_ren := {
  sizeBuilder := by kernel_rfl
  liesBuilder := by kernel_rfl
  t5 := Tryz.underlying5
  a5 := Tryz.isAgg5
  z5 := Tryz.sizeOf5
  v5 := Tryz.zeroValue5
  infoByte := by kernel_rfl
  cellsByte := by kernel_rfl
  sizeByte := by kernel_rfl
  neB5 := by decide }
open Go.RowKit Go.Lib in
/-- **strings.Repeat: count ≥ 0, the result within one allocation: count copies of s.** (LAID: no walk: one application.) -/
theorem Tryz.strings_Repeat (s : ByteArray) (c : Nat) (w : World) (hc : c ≤ 9223372036854775807) (hlen : s.size * c ≤ 140737488355328) :
    Calls Tryz.prog 90 #[.string s, .int .i64 c] w fun e w' => e = .returned (.string ⟨(Lib.repeatL s.data.toList c).toArray⟩) ∧ Below w.heap.size w w' := Any.strings_Repeat Tryz.lays105 Tryz.Builder_Extra_105 s c w hc hlen
end Go.Proofs
end

section
namespace Go.Proofs.YtiojgdjpigcgaaaGreatDoor.Q
open Go.RowKit Go.Proofs.YtiojgdjpigcgaaaGreatDoor.Q Go.Proofs.YtiojgdjpigcgaaaGreatDoorW.PrintWords Go.Proofs.YtiojgdjpigcgaaaGreatDoorW.PrintLast Go.Proofs.YtiojgdjpigcgaaaGreatDoorW.PrintMore
set_option linter.unusedVariables false
set_option linter.unusedSimpArgs false
/-- The table that strconv reads is laid. -/
def Laid (w : World) : Prop := Lib.TabIs Tryz.prog w "internal/strconv.uint64pow10" .u64 Lib.pow10Tab
theorem gPow : ∃ g, Tryz.prog.globalNamed "internal/strconv.uint64pow10" = some g := Option.isSome_iff_exists.1 (by kernel_rfl)
theorem laid_below {w W : World} (h : Laid w) (hb : Below w.heap.size w W) : Laid W := by
  obtain ⟨g, hg⟩ := gPow
  unfold Laid Lib.TabIs World.var? at h ⊢
  simp only [hg, Option.bind_some] at h ⊢
  have hlt : g < w.heap.size := by
    rcases Nat.lt_or_ge g w.heap.size with h' | h'
    · exact h'
    · simp [Array.getElem?_eq_none h'] at h
  rw [hb.block g hlt]
  exact h
end Go.Proofs.YtiojgdjpigcgaaaGreatDoor.Q
end

section
namespace Go.Proofs.YtiojgdjpigcgaaaGreatDoor.Q
open Go.Shelf
open Go.RowKit Go.Proofs.YtiojgdjpigcgaaaGreatDoor.Q Go.Proofs.YtiojgdjpigcgaaaGreatDoorW.PrintWords Go.Proofs.YtiojgdjpigcgaaaGreatDoorW.PrintLast Go.Proofs.YtiojgdjpigcgaaaGreatDoorW.PrintMore
set_option linter.unusedVariables false
set_option linter.unusedSimpArgs false
attribute [local go_sem] Oper.semAt_some
theorem piece_len (m : Int) (x : Limb) : (piece m x.1).length ≤ 4 := by
  have := itoa_len x.1.2 x.2.1 x.2.2
  unfold piece
  split
  · rw [List.length_append, Lib.repeatL_length]; simp only [List.length_cons, List.length_nil]; omega
  · exact this
theorem pieces_len (m : Int) : ∀ pre : List Limb, (pre.flatMap fun x => piece m x.1).length ≤ 4 * pre.length
  | [] => by simp
  | x :: pre => by
    have h1 := piece_len m x
    have h2 := pieces_len m pre
    rw [List.flatMap_cons, List.length_append, List.length_cons]
    omega
theorem text_round {w W wm w3 : World} {n B0 : Nat} {m : Int} {cs : Array Value} {pre : List Limb} {x : Limb} {s : ByteArray} (hn : n = w.heap.size)
    (tB : Lib.IsBuilderF 150 5 w.heap.size (w.heap.size + 1) (Lib.byteCells (pre.flatMap fun x => piece m x.1)) W) (t1 : CellsAt W w.heap.size 111 cs) (t0 : CellsAt W (w.heap.size + 1 + 1) 111 cs) (tb : Below w.heap.size w W) (hb : Below W.heap.size W wm)
    (hB3 : Lib.BuilderAtF 150 5 w.heap.size (w.heap.size + 1) (.pointer (some ⟨w.heap.size + 1, 0, none⟩)) (Lib.byteCells (pre.flatMap fun x => piece m x.1) ++ Lib.strCells s) w3) (hb3 : Below w.heap.size wm w3) (hk3 : Lib.OthersKept 5 (some (w.heap.size + 1)) wm w3) (hs : s.data.toList = piece m x.1) :
    KeepsFrom B0 W w3 ∧ KpB w.heap.size (w.heap.size + 1 + 1) W w3 ∧ ((Lib.IsBuilderF 150 5 w.heap.size (w.heap.size + 1) (Lib.byteCells ((pre ++ [x]).flatMap fun x => piece m x.1)) w3 ∧ CellsAt w3 w.heap.size 111 cs) ∧ CellsAt w3 (w.heap.size + 1 + 1) 111 cs) ∧ Below w.heap.size w w3 := by
  have tBm := builder_below tB hb
  have hcell : ∃ cs t fz, wm.heap[w.heap.size + 1]? = some (.cells cs t fz) := by
    obtain h | h := tBm <;> (obtain ⟨_, v, hbk, _⟩ := h; exact ⟨_, _, _, hbk⟩)
  have hno : ∀ c fz, (Obj.cells cs 111 (0, 0)) ≠ .cells c 5 fz := fun c fz e => by injection e with _ e2 _; exact absurd e2 (by decide)
  have k1 : CellsAt w3 w.heap.size 111 cs := hk3 _ _ (t1.below hb t1.lt) (by simp) hno
  have k0 : CellsAt w3 (w.heap.size + 1 + 1) 111 cs := hk3 _ _ (t0.below hb t0.lt) (by simp) hno
  have hbW : Below w.heap.size W wm := hb.mono tb.size
  refine ⟨(keepsFrom_of_below hb).trans (keepsFrom_of_others hb3.size hk3 hcell), ⟨hbW.trans hb3, k0.trans t0.symm⟩, ⟨⟨.inr ?_, k1⟩, k0⟩, (tb.trans hbW).trans hb3⟩
  rw [List.flatMap_append, List.flatMap_singleton, Lib.byteCells_append, ← hs]
  exact hB3
set_option maxRecDepth 100000 in
set_option maxHeartbeats 4000000 in
theorem impl_text.calls (A0 : Option Addr) (c0 : Nat) (l0 : List Int) (w : World) (hlaid : Laid w) (hr0 : Kd.C (Kd.int .i64) w A0 l0.length l0) (hc0 : l0.length ≤ c0) (hz : ∀ y ∈ l0, 0 ≤ y ∧ y ≤ 9999) (hlen : l0.length ≤ 1000000) :
    Calls Tryz.prog 129 #[.slice A0 l0.length c0] w fun e w' => e = .returned (.string ⟨(textF l0).toArray⟩) ∧ Below w.heap.size w w' := by
  have HR0 := Aside0.mk hr0
  have HC0 := Aside0.mk hc0
  have HL := Aside0.mk hlen
  clear hr0 hc0 hlen
  by_cases hnil : l0 = []
  · subst hnil
    refine (callsIn_wide (n := 9)).1 ?_
    refine callsIn_of_wp_marks Tryz.func129 rfl trivial ?_ rfl
    simp only [Tryz.ntmps129, List.size_toArray, List.length_cons, List.length_nil, Nat.reduceAdd, Nat.reduceSub, Array.replicate_succ, Array.replicate_zero, List.push_toArray, List.append_toArray, List.nil_append, List.cons_append]
    gi_wp2
    exact ⟨_, results_tmp rfl _ _ _, rfl, (Below.refl _ w).alloc (Nat.le_refl _) _⟩
  · have hn : (l0.length : Int) ≠ 0 := by have := List.length_pos_iff.2 hnil; omega
    have hn1 : ((l0.length : Int) == 0) = false := beq_eq_false_iff_ne.mpr hn
    refine (callsIn_wide (n := 9)).1 ?_
    refine callsIn_of_wp_marks Tryz.func129 rfl trivial ?_ rfl
    simp only [Tryz.ntmps129, List.size_toArray, List.length_cons, List.length_nil, Nat.reduceAdd, Nat.reduceSub, Array.replicate_succ, Array.replicate_zero, List.push_toArray, List.append_toArray, List.nil_append, List.cons_append]
    gi_wp2_with (refine ⟨trivial, ?_⟩; gi_at_call 166; refine (backI_in Fence.wide _ trivial rfl _ _ _ _).mono ?_; rintro e w6 ⟨rfl, hw6⟩)
    have e0 : ((upto (limbAt l0 hz) l0.length).flatMap fun x => piece l0.length x.1) = textF l0 := by
      unfold textF upto
      rw [if_neg hnil, List.flatMap_map, List.flatMap_map]
      rfl
    obtain ⟨W0, hW0⟩ : ∃ W0, ((w.alloc (.cells #[.slice A0 l0.length c0] 111)).alloc (.cells #[.pointer none, .slice none 0 0] 150)).alloc (.cells #[.slice A0 l0.length c0] 111) = W0 := ⟨_, rfl⟩
    have s1 : CellsAt W0 w.heap.size 111 #[.slice A0 l0.length c0] := by rw [← hW0]; exact ((CellsAt.new w _ _).alloc _).alloc _
    have s0 : CellsAt W0 (w.heap.size + 1 + 1) 111 #[.slice A0 l0.length c0] := by rw [← hW0]; have := CellsAt.new ((w.alloc (.cells #[.slice A0 l0.length c0] 111)).alloc (.cells #[.pointer none, .slice none 0 0] 150)) 111 #[.slice A0 l0.length c0]; rwa [World.size_alloc, World.size_alloc] at this
    have sB : Lib.IsBuilderF 150 5 w.heap.size (w.heap.size + 1) (Lib.byteCells []) W0 := by
      have h : CellsAt W0 (w.heap.size + 1) 150 #[.pointer none, .slice none 0 0] := by rw [← hW0]; have := (CellsAt.new (w.alloc (.cells #[.slice A0 l0.length c0] 111)) 150 #[.pointer none, .slice none 0 0]).alloc (.cells #[.slice A0 l0.length c0] 111); rwa [World.size_alloc] at this
      exact .inl ⟨by omega, .slice none 0 0, h, World.ownsRowF_nil _ _ _ _, by simp [Value.ownBlock]⟩
    have hsz : W0.heap.size = w.heap.size + 1 + 1 + 1 := by rw [← hW0]; simp
    have hBW0 : Below w.heap.size w W0 := by rw [← hW0]; exact (((Below.refl _ w).alloc (Nat.le_refl _) _).alloc (by simp) _).alloc (by simp; omega) _
    rw [hW0]
    clear hW0 hw6
    refine wpIn_rangeFunc_ownH rfl (by decide) (gf := 208) (lb := #[.pointer (some ⟨w.heap.size + 1 + 1, 0, none⟩)]) rfl trivial (enters_of Tryz.func208 (by kernel_rfl) rfl)
      (backI_stops (fun x : Limb => x.1) (limbAt l0 hz) Fence.wide _ trivial rfl (by decide) (w.heap.size + 1 + 1) w A0 c0 l0 HC0.out (by have := HL.out; omega) HR0.out (fun _ _ => rfl) W0 hBW0 s0) KpB.trans (kpB_b (by omega) (by omega)) (Below.refl _ _) (fun _ => rfl)
      (fun pre W => ((Lib.IsBuilderF 150 5 w.heap.size (w.heap.size + 1) (Lib.byteCells (pre.flatMap fun x => piece l0.length x.1)) W ∧ CellsAt W w.heap.size 111 #[.slice A0 l0.length c0]) ∧ CellsAt W (w.heap.size + 1 + 1) 111 #[.slice A0 l0.length c0]) ∧ Below w.heap.size w W)
      (fun _ _ _ => False)
      (OwnFrom.and (OwnFrom.and (OwnFrom.and (Own.from (builder_own _ _ _ _ _) _) (Own.from (cellsAt_own _ _ _) _)) (Own.from (cellsAt_own _ _ _) _)) (ownFrom_below (Nat.le_refl _) (by omega)))
      (fun _ _ _ _ _ hs _ _ => hs)
      ⟨⟨⟨sB, s1⟩, s0⟩, hBW0⟩
      (fun x a' _ => a' = { tmps := #[.slice A0 l0.length c0, .pointer (some ⟨w.heap.size, 0, none⟩), .string ⟨#[]⟩, .pointer (some ⟨w.heap.size + 1, 0, none⟩), .int .i64 x.1.1, .int .i64 x.1.2, undef, .slice A0 l0.length c0, .int .i64 l0.length, .bool false, .slice A0 l0.length c0, .func (.func 208) #[] #[.pointer (some ⟨w.heap.size + 1 + 1, 0, none⟩)], .int .i64 x.1.1, .int .i64 x.1.2, undef, undef, undef, undef, undef, undef, undef, undef, undef, undef, undef, undef, undef, undef, undef, undef], defers := [] })
      (fun _ _ _ _ _ _ hs _ _ => hs)
      ?assign ?body ?done ?stop
    case assign =>
      rintro l pre x W K hI hK
      simp only [encI]
      gi_wp2
      exact hK _ _ (KeepsFrom.refl _ _) (KpB.refl _ _ _) hI rfl
    case body =>
      rintro l pre x a' W hl ⟨r, hr⟩ ⟨⟨⟨tB, t1⟩, t0⟩, tb⟩ rfl hlt
      have hx0 := x.2.1
      have hx1 := x.2.2
      have u1 : W.cell? ⟨w.heap.size, 0, none⟩ = some (.slice A0 l0.length c0) := t1.cell 0
      have hl4 := itoa_len x.1.2 hx0 hx1
      gi_wp2
      refine ⟨trivial, ?_⟩
      refine (CallsIn.inRound l (callsIn_wide.2 (Tryz.strconv_Itoa x.1.2 (by omega) (by omega) W (laid_below hlaid tb)))).mono ?_
      rintro e w1 ⟨rfl, k1, os1, hw1⟩
      have hb1 : Below W.heap.size W w1 := by rw [hw1]; exact Go.Lib.below_grow _ _ (Nat.le_refl _) _ _
      have u1' : w1.cell? ⟨w.heap.size, 0, none⟩ = some (.slice A0 l0.length c0) := (t1.below hb1 t1.lt).cell 0
      have ew : wrap64 ((l0.length : Int) - 1) = (l0.length : Int) - 1 := by have := HL.out; unfold wrap64; omega
      clear hw1
      by_cases hlt2 : x.1.1 < (l0.length : Int) - 1
      · have hd : decide (x.1.1 < (l0.length : Int) - 1) = true := decide_eq_true hlt2
        gi_wp2
        refine ⟨trivial, ?_⟩
        have hc : (4 - ((Lib.itoa x.1.2).length : Int)) = ((4 - (Lib.itoa x.1.2).length : Nat) : Int) := by omega
        rw [hc]
        refine (CallsIn.inRound l (callsIn_wide.2 (Tryz.strings_Repeat ⟨#[48]⟩ (4 - (Lib.itoa x.1.2).length) w1 (by omega) (by show 1 * _ ≤ _; omega)))).mono ?_
        rintro e w2 ⟨rfl, hb2⟩
        have hrl := Lib.repeatL_length [48] (4 - (Lib.itoa x.1.2).length)
        have hov : (9223372036854775807 < (Lib.repeatL [48] (4 - (Lib.itoa x.1.2).length)).length + (Lib.itoa x.1.2).length) = False := eq_false (by rw [hrl]; simp only [List.length_cons, List.length_nil]; omega)
        gi_wp2
        refine ⟨trivial, ?_⟩
        refine (CallsIn.inRound l (callsIn_wide.2 (bld_WriteString w.heap.size (w.heap.size + 1) _ _ w2 (builder_below (builder_below tB hb1) hb2) (by rw [Lib.byteCells_length]; have := pieces_len l0.length pre; have := HL.out; rw [ByteArray.size_append]; have e1 : (⟨(Lib.repeatL [48] (4 - (Lib.itoa x.1.2).length)).toArray⟩ : ByteArray).size = (Lib.repeatL [48] (4 - (Lib.itoa x.1.2).length)).length := rfl; have e2 : (⟨(Lib.itoa x.1.2).toArray⟩ : ByteArray).size = (Lib.itoa x.1.2).length := rfl; rw [e1, e2, hrl]; simp only [List.length_cons, List.length_nil]; omega) (by have := tb.size; have := hb1.size; have := hb2.size; omega)))).mono ?_
        rintro e w3 ⟨rfl, hB3, hb3, hk3⟩
        gi_wp2
        exact text_round rfl tB t1 t0 tb (hb1.trans (hb2.mono hb1.size)) hB3 hb3 hk3 (by unfold piece; rw [if_pos hlt2]; simp)
      · have hd : decide (x.1.1 < (l0.length : Int) - 1) = false := decide_eq_false hlt2
        gi_wp2
        refine ⟨trivial, ?_⟩
        refine (CallsIn.inRound l (callsIn_wide.2 (bld_WriteString w.heap.size (w.heap.size + 1) _ _ w1 (builder_below tB hb1) (by rw [Lib.byteCells_length]; have := pieces_len l0.length pre; have := HL.out; have e2 : (⟨(Lib.itoa x.1.2).toArray⟩ : ByteArray).size = (Lib.itoa x.1.2).length := rfl; rw [e2]; omega) (by have := tb.size; have := hb1.size; omega)))).mono ?_
        rintro e w3 ⟨rfl, hB3, hb3, hk3⟩
        gi_wp2
        exact text_round rfl tB t1 t0 tb hb1 hB3 hb3 hk3 (by unfold piece; rw [if_neg (by omega)])
    case done =>
      rintro D ys W hD rfl ⟨⟨⟨tB, t1⟩, t0⟩, tb⟩ hK
      gi_wp2_with (refine ⟨trivial, ?_⟩; gi_at_call 138; refine (callsIn_wide.2 (Tryz.Builder_String_any_k w.heap.size (w.heap.size + 1) _ _ tB (by have := tb.size; omega))).mono ?_; rintro e w7 ⟨rfl, hb7, hb8, hok⟩)
      have hK7 := hok D _ hK (fun e' => by cases e'; obtain h | h := tB <;> (obtain ⟨_, v, hbk, _⟩ := h; rw [hK] at hbk; cases hbk)) (fun _ _ h => by cases h)
      refine ⟨by simp, .inl ⟨_, _, rfl, run_takeDeferred hK7, ?_⟩⟩
      refine ⟨_, results_tmp rfl _ _ _, ?_, (tb.trans hb8).trans (belowK_b (w := w) (Nat.le_refl _) w7 D _ _ (by omega) hK7 rfl rfl)⟩
      rw [← e0]
      rfl
    case stop =>
      rintro D c pre W _ _ h _
      exact h.elim
end Go.Proofs.YtiojgdjpigcgaaaGreatDoor.Q
end

section
/-! Rf: what the contracts of the library say is what the run takes them to say. -/
set_option autoImplicit false
namespace Go.Proofs.YtiojgdjpigcgaaaGreatDoor.R
open Go.Rf Go.RowKit
theorem ans_below {sp : Go.Rf.Spec} {out : sp.Out} {w w' : World} {Z : Nat → Prop} {args rvs : List Value} (hZ : ∀ b, Z b → b < w.heap.size) (hb : Below w.heap.size w w') (hr : ShsRep w' Z sp.rs out.1 rvs []) (hp : PostRep w w' Z sp.ps out.2 args []) :
    AnsS sp out w Z args [] (.returned (tupV rvs)) w' :=
  ⟨rvs, Z, [], [], rfl, hr, hp, by simp, (fun b hb => by cases hb), (fun b hb => hb), fun b hz => ⟨Nat.lt_of_lt_of_le (hZ b hz) hb.size, .inl hz⟩, ⟨hb.os, hb.tape, hb.output, hb.size, fun b hlt _ => hb.block b hlt, fun b o ho _ => (hb.block b (Array.getElem?_eq_some_iff.1 ho).1).trans ho⟩⟩
/-- two arguments of one cell each -/
theorem two_args {w : World} {Z : Nat → Prop} {s t : T} {x : s.D} {y : t.D} {args : List Value} {fp : List Nat} (h : ShsRep w Z [.c (.v s), .c (.v t)] (x, y, ()) args fp) : ∃ u v, args = [u, v] ∧ fp = [] ∧ rep w Z s x [u] ∧ rep w Z t y [v] := by
  match args, h with
  | [v1, v2], ⟨f, g, hfp, ⟨hv, hf⟩, ⟨f2, g2, hg2, ⟨hv2, hf2⟩, hg⟩⟩ =>
    obtain rfl : f = [] := hf
    obtain rfl : f2 = [] := hf2
    obtain rfl : g2 = [] := hg
    obtain rfl : g = [] := hg2
    obtain rfl : fp = [] := hfp
    exact ⟨v1, v2, rfl, rfl, hv, hv2⟩
theorem one_arg {w : World} {Z : Nat → Prop} {s : T} {x : s.D} {args : List Value} {fp : List Nat} (h : ShsRep w Z [.c (.v s)] (x, ()) args fp) : ∃ u, args = [u] ∧ fp = [] ∧ rep w Z s x [u] := by
  match args, h with
  | [v1], ⟨f, g, hfp, ⟨hv, hf⟩, hg⟩ =>
    obtain rfl : f = [] := hf
    obtain rfl : g = [] := hg
    obtain rfl : fp = [] := hfp
    exact ⟨v1, rfl, rfl, hv⟩
theorem str_arg {w : World} {Z : Nat → Prop} {s : ByteArray} {v : Value} (h : rep w Z .str s [v]) : v = .string s := (List.cons.inj (show [v] = [Value.string s] from h)).1
theorem int_arg {w : World} {Z : Nat → Prop} {k : IntKind} {n : Int} {v : Value} (h : rep w Z (.int k) n [v]) : v = .int k n := (List.cons.inj (show [v] = [Value.int k n] from h)).1
theorem post_two {w w' : World} {Z : Nat → Prop} {s t : T} {u v : Value} : PostRep w w' Z [.c (.v s), .c (.v t)] ((), (), ()) [u, v] [] := ⟨[], [], rfl, rfl, ⟨[], [], rfl, rfl, rfl⟩⟩
theorem post_one {w w' : World} {Z : Nat → Prop} {s : T} {u : Value} : PostRep w w' Z [.c (.v s)] ((), ()) [u] [] := ⟨[], [], rfl, rfl, rfl⟩
section
open Go.Proofs.YtiojgdjpigcgaaaGreatDoor.Q Go.Proofs.YtiojgdjpigcgaaaGreatDoorW.PrintWords
theorem text_parts (zs : List Int) : ∀ m, m ≤ zs.length → ((Q.upto (Q.bwI zs) m).flatMap (Q.piece (zs.length : Int))) = figs (zs.drop (zs.length - m)) := by
  intro m
  induction m with
  | zero =>
    intro _
    rw [Nat.sub_zero, List.drop_length]
    rfl
  | succ m ih =>
    intro hm
    obtain ⟨j, hj⟩ : ∃ j, j = zs.length - (m + 1) := ⟨_, rfl⟩
    have hj1 : zs.length - m = j + 1 := by omega
    have hjl : j < zs.length := by omega
    have e1 : Q.upto (Q.bwI zs) (m + 1) = Q.upto (Q.bwI zs) m ++ [Q.bwI zs m] := by
      unfold Q.upto
      rw [List.range_succ, List.map_append]
      rfl
    have e2 : Q.bwI zs m = ((j : Int), zs.getD j 0) := by
      unfold Q.bwI
      have : (zs.length : Int) - 1 - (m : Int) = (j : Int) := by omega
      rw [this]
      rfl
    rw [e1, List.flatMap_append, ih (by omega), List.flatMap_singleton, e2, hj1, ← hj]
    unfold Q.piece
    by_cases h : j + 1 < zs.length
    · rw [if_pos (show ((j : Int), zs.getD j 0).1 < (zs.length : Int) - 1 by show (j : Int) < _; omega), figs_drop h]
      rfl
    · have hl : zs.length = j + 1 := by omega
      rw [if_neg (show ¬ ((j : Int), zs.getD j 0).1 < (zs.length : Int) - 1 by show ¬ (j : Int) < _; omega), figs_last hl, List.drop_eq_nil_of_le (by omega)]
      rfl
theorem textF_eq (l : List Int) : (⟨(Q.textF l).toArray⟩ : ByteArray) = textL l := by
  unfold Q.textF
  cases l with
  | nil => rfl
  | cons d l =>
    rw [if_neg (by simp)]
    have := text_parts (d :: l) (d :: l).length (Nat.le_refl _)
    rw [Nat.sub_self, List.drop_zero] at this
    exact congrArg (fun x : List UInt8 => (⟨x.toArray⟩ : ByteArray)) this
theorem reps_ints {w : World} {Z : Nat → Prop} : ∀ {l : List Int} {vs : List Value}, reps (rep w Z (.int .i64)) l vs → vs = l.map (Value.int .i64)
  | [], vs, h => h
  | x :: l, vs, h => by
    obtain ⟨c, d, rfl, h1, h2⟩ := h
    rw [reps_ints h2, show c = [.int .i64 x] from h1]
    rfl
theorem reads_of {w : World} {Z : Nat → Prop} {l : List Int} {v : Value} (h : rep w Z (.sl (.int .i64)) l [v]) (hl : l.length ≤ 1000000) : ∃ A c, v = .slice A l.length c ∧ l.length ≤ c ∧ Kd.C (Kd.int .i64) w A l.length l := by
  obtain ⟨A, c, vs, h1, h2, h3, h4⟩ := h
  obtain rfl := reps_ints h3
  refine ⟨A, c, (List.cons.inj h1).1, h2, rfl, by omega, fun h0 => ?_⟩
  have at' : ∀ j p, l[j]? = some p → ∃ a : Addr, A = some a ∧ w.cell? (a.add j) = some (.int .i64 p) := fun j p hp => by
    obtain ⟨a, ha, _, _, hc⟩ := h4 j (.int .i64 p) (by rw [List.getElem?_map, hp]; rfl)
    exact ⟨a, ha, hc⟩
  obtain ⟨a, ha, _⟩ := at' 0 l[0] (List.getElem?_eq_getElem h0)
  refine ⟨a, ha, fun j p hp => ⟨[.int .i64 p], rfl, rfl, fun i u hu => ?_⟩⟩
  obtain ⟨a', ha', hc⟩ := at' j p hp
  obtain rfl := Option.some.inj (ha.symm.trans ha')
  cases i with
  | zero =>
    obtain rfl := Option.some.inj hu
    have : j * 1 + 0 = j := by omega
    show w.cell? (a.add (j * 1 + 0)) = _
    rw [this]
    exact hc
  | succ i => simp at hu
end
theorem gPow : Tryz.prog.globalNamed "internal/strconv.uint64pow10" = some powG := by kernel_rfl
theorem laid_of {w : World} {Z : Nat → Prop} (h : GL cx w Z) : Q.Laid w := by
  obtain ⟨_, cs, t, fz, hh, rfl⟩ := h.2 powG (fun cs => cs = powCells) (by show objsR powG = _; unfold objsR; simp)
  unfold Q.Laid Lib.TabIs World.var?
  rw [gPow, Option.bind_some, hh]
  rfl
theorem text_contract (inp : (cx.spec 129).In) (out : (cx.spec 129).Out) (h : textR inp = some out) : Contract cx 129 inp out := by
  obtain ⟨l, _⟩ := inp
  unfold textR at h
  split at h
  · rename_i hok
    obtain rfl := Option.some.inj h
    unfold limbsOk at hok
    simp only [Bool.and_eq_true, List.all_eq_true, decide_eq_true_eq] at hok
    intro w Z args fp hrep _ _ hZ hGL
    match args, hrep with
    | [v], ⟨f, g, hfp, ⟨hv, hf⟩, hg⟩ =>
      obtain rfl : f = [] := hf
      obtain rfl : g = [] := hg
      obtain rfl : fp = [] := hfp
      obtain ⟨A, c, rfl, hc, hK⟩ := reads_of hv hok.2
      refine (Q.impl_text.calls A c l w (laid_of hGL) hK hc hok.1 hok.2).mono ?_
      rintro e w' ⟨rfl, hb⟩
      rw [textF_eq]
      refine ⟨[.string (textL l)], Z, [], [], rfl, ⟨[], [], rfl, ⟨rfl, rfl⟩, rfl⟩, ⟨[], [], rfl, rfl, rfl⟩, by simp, (fun b hb => by cases hb), (fun b hb => hb), fun b hz => ⟨Nat.lt_of_lt_of_le (hZ b hz) hb.size, .inl hz⟩, ⟨hb.os, hb.tape, hb.output, hb.size, fun b hlt _ => hb.block b hlt, fun b o ho _ => (hb.block b (Array.getElem?_eq_some_iff.1 ho).1).trans ho⟩⟩
  · cases h
theorem gMax : Tryz.prog.globalNamed "internal/bytealg.MaxLen" = some maxG := by kernel_rfl
theorem cut_contract (inp : (cx.spec 43).In) (out : (cx.spec 43).Out) (h : cutR inp = some out) : Contract cx 43 inp out := by
  obtain ⟨a, b, u⟩ := inp
  unfold cutR at h
  dsimp only at h
  obtain ⟨h1, h2⟩ := Go.Rf.cond_some h
  obtain rfl := Option.some.inj h2
  intro w Z args fp hrep _ _ hZ hGL
  obtain ⟨v1, v2, rfl, rfl, hv1, hv2⟩ := two_args hrep
  obtain rfl := str_arg hv1
  obtain rfl := str_arg hv2
  obtain ⟨_, cs, t, fz, hh, m, hm⟩ := hGL.2 maxG (fun cs => ∃ m, cs[0]? = some (.int .i64 m)) (by show objsR maxG = _; unfold objsR; simp [maxG, powG])
  refine (Tryz.strings_Cut a b m w (Nat.lt_of_lt_of_le (Nat.lt_of_succ_le (Nat.le_of_ble_eq_true h1)) (Nat.le_refl _)) (by show w.cell? ⟨maxG, 0, none⟩ = _; unfold World.cell?; rw [hh]; simpa using hm)).mono ?_
  rintro e w' ⟨rfl, n, rfl⟩
  exact ans_below (rvs := [.string _, .string _, .bool _]) hZ (show Below w.heap.size w (w.drewN n) from ⟨rfl, rfl, rfl, Nat.le_refl _, (Below.refl w.heap.size w).block⟩) ⟨[], [], rfl, ⟨rfl, rfl⟩, ⟨[], [], rfl, ⟨rfl, rfl⟩, ⟨[], [], rfl, ⟨rfl, rfl⟩, rfl⟩⟩⟩ post_two
theorem repeat_contract (inp : (cx.spec 90).In) (out : (cx.spec 90).Out) (h : repeatR inp = some out) : Contract cx 90 inp out := by
  obtain ⟨s, n, u⟩ := inp
  unfold repeatR at h
  dsimp only at h
  obtain ⟨h1, h2⟩ := Go.Rf.cond_some h
  obtain rfl := Option.some.inj h2
  simp only [Bool.and_eq_true, decide_eq_true_eq] at h1
  obtain ⟨⟨h0, h3⟩, h4⟩ := h1
  obtain ⟨c, rfl⟩ := Int.eq_ofNat_of_zero_le h0
  rw [Int.toNat_natCast] at h3 h4 ⊢
  intro w Z args fp hrep _ _ hZ hGL
  obtain ⟨v1, v2, rfl, rfl, hv1, hv2⟩ := two_args hrep
  obtain rfl := str_arg hv1
  obtain rfl := int_arg hv2
  refine (Tryz.strings_Repeat s c w (Nat.le_of_ble_eq_true h3) (Nat.le_of_ble_eq_true h4)).mono ?_
  rintro e w' ⟨rfl, hb⟩
  exact ans_below (rvs := [.string _]) hZ hb ⟨[], [], rfl, ⟨rfl, rfl⟩, rfl⟩ post_two
theorem atoi_contract (inp : (cx.spec 141).In) (out : (cx.spec 141).Out) (h : atoiR inp = some out) : Contract cx 141 inp out := by
  obtain ⟨s, u⟩ := inp
  unfold atoiR at h
  dsimp only at h
  split at h
  · rename_i n hn
    obtain ⟨h1, h2⟩ := Go.Rf.cond_some h
    obtain rfl := Option.some.inj h2
    intro w Z args fp hrep _ _ hZ hGL
    obtain ⟨v, rfl, rfl, hv⟩ := one_arg hrep
    obtain rfl := str_arg hv
    refine (Tryz.strconv_Atoi s n (Nat.le_of_ble_eq_true h1) hn w).mono ?_
    rintro e w' ⟨rfl, t, rfl⟩
    exact ans_below (rvs := [.int .i64 n, .nilIface]) hZ (Lib.bytesWorld_below w _ t) ⟨[], [], rfl, ⟨rfl, rfl⟩, ⟨[], [], rfl, ⟨.inl ⟨rfl, rfl⟩, rfl⟩, rfl⟩⟩ post_one
  · cases h
theorem trim_contract (inp : (cx.spec 130).In) (out : (cx.spec 130).Out) (h : trimR inp = some out) : Contract cx 130 inp out := by
  obtain ⟨a, b, u⟩ := inp
  unfold trimR at h
  dsimp only at h
  split at h
  · rename_i c hc
    obtain ⟨h1, h2⟩ := Go.Rf.cond_some h
    obtain rfl := Option.some.inj h2
    rw [Bool.and_eq_true] at h1
    have hb : b = ⟨#[c]⟩ := by rw [← Lib.mk_data b, hc]
    subst hb
    intro w Z args fp hrep _ _ hZ hGL
    match args, hrep with
    | [v1, v2], ⟨f, g, hfp, ⟨hv, hf⟩, ⟨f2, g2, hg2, ⟨hv2, hf2⟩, hg⟩⟩ =>
      obtain rfl : f = [] := hf
      obtain rfl : f2 = [] := hf2
      obtain rfl : g2 = [] := hg
      obtain rfl : g = [] := hg2
      obtain rfl : fp = [] := hfp
      have e1 : v1 = .string a := (List.cons.inj (show [v1] = [Value.string a] from hv)).1
      have e2 : v2 = .string ⟨#[c]⟩ := (List.cons.inj (show [v2] = [Value.string ⟨#[c]⟩] from hv2)).1
      subst e1
      subst e2
      refine (Tryz.strings_TrimRight_one a c (by simpa using h1.1) w (Nat.le_of_ble_eq_true h1.2)).mono ?_
      rintro e w' ⟨rfl, rfl⟩
      refine ⟨[.string ⟨(Lib.trimRightB a.data.toList c).toArray⟩], Z, [], [], rfl, ⟨[], [], rfl, ⟨rfl, rfl⟩, rfl⟩, ⟨[], [], rfl, rfl, ⟨[], [], rfl, rfl, rfl⟩⟩, by simp, (fun b hb => by cases hb), (fun b hb => hb), fun b hz => ⟨hZ b hz, .inl hz⟩, ⟨rfl, rfl, rfl, Nat.le_refl _, fun b hlt _ => rfl, fun b o ho _ => ho⟩⟩
  · cases h
theorem told (k f : Nat) (inp : (cx.spec f).In) (out : (cx.spec f).Out) (h : callF cx k f inp = some out) : Go.Rf.Contract cx f inp out := (Go.Rf.run_ok good (fun f g inp out h h2 => by
  have h : extR f = some g := h
  by_cases e129 : f = 129
  · subst e129
    obtain rfl := Option.some.inj h
    exact text_contract inp out h2
  by_cases e43 : f = 43
  · subst e43
    obtain rfl := Option.some.inj h
    exact cut_contract inp out h2
  by_cases e90 : f = 90
  · subst e90
    obtain rfl := Option.some.inj h
    exact repeat_contract inp out h2
  by_cases e141 : f = 141
  · subst e141
    obtain rfl := Option.some.inj h
    exact atoi_contract inp out h2
  by_cases e130 : f = 130
  · subst e130
    obtain rfl := Option.some.inj h
    exact trim_contract inp out h2
  · exfalso
    unfold extR at h
    split at h
    · exact e129 rfl
    · exact e43 rfl
    · exact e90 rfl
    · exact e141 rfl
    · exact e130 rfl
    · cases h) k).1 f inp out h
end Go.Proofs.YtiojgdjpigcgaaaGreatDoor.R
end

section
/-! Rf: the row of a law, out of its pure statement. -/
set_option autoImplicit false
namespace Go.Proofs.YtiojgdjpigcgaaaGreatDoor.fnExactKeyGet
open Go.Rf Go.Proofs.YtiojgdjpigcgaaaGreatDoor.R Go.ChangeShapes Go.WideShapes Go.ChangeAt Go.RowKit
set_option linter.unusedVariables false
theorem walk (P : PureFnExactKeyGet) (w : World) (hGL : GL cx w (Here w)) (v0 : Value) (y0 : (vSh ⟨false, [.str], [], 16⟩).D) (v1 : Value) (y1 : (vSh ⟨false, [.bool], [], 1⟩).D) (h0 : ShRep w (Here w) (vSh ⟨false, [.str], [], 16⟩) y0 v0 []) (w0 : shWf (vSh ⟨false, [.str], [], 16⟩) y0) (h1 : ShRep w (Here w) (vSh ⟨false, [.bool], [], 1⟩) y1 v1 []) (w1 : shWf (vSh ⟨false, [.bool], [], 1⟩) y1) :
    Calls Tryz.prog 4 #[v0, v1] w fun e w' => e = .returned (.bool true) ∧ Below w.heap.size w w' := by
  obtain ⟨k, p, h⟩ := P y0 y1 w0 w1
  have h' : callF cx k 4 (y0, y1, ()) = some ((true, ()), p) := h
  have hr : ShsRep w (Here w) (cx.spec 4).ps (y0, y1, ()) [v0, v1] [] := ⟨[], [], rfl, h0, ⟨[], [], rfl, h1, rfl⟩⟩
  exact law_calls (told k 4 _ _ h') hr hGL (fun w' Z vs fp h => res_bool h)
theorem own : ownKnob Tryz.prog.godebug = none := by kernel_rfl
theorem laidOut : laidOutB Tryz.prog = true := by kernel_rfl
/-- what the row lists -/
def laidL : List (String × DataW Unit) := [("math/bits.deBruijn32tab", Rows.laid_math_bits_deBruijn32tab), ("math/bits.deBruijn64tab", Rows.laid_math_bits_deBruijn64tab), ("internal/strconv.uint64pow10", Rows.laid_internal_strconv_uint64pow10), ("unicode/utf8.acceptRanges", Rows.laid_unicode_utf8_acceptRanges), ("strconv.ErrRange", Rows.laid_strconv_ErrRange), ("strconv.ErrSyntax", Rows.laid_strconv_ErrSyntax), ("unicode/utf8.first", Rows.laid_unicode_utf8_first)]
theorem pow_data : (Rows.laid_internal_strconv_uint64pow10 : DataW Unit) = Lib.tabData .u64 Lib.pow10Tab := by kernel_rfl
theorem gl_of {W : World} (h : laidMetH Tryz.prog laidL W) (hsh : W.ShapedOpen Tryz.prog) : GL cx W (Here W) := by
  unfold laidL at h
  rw [MakeChecks.laidMetH_plain _ _ _ (by kernel_rfl), pow_data] at h
  have ht := Lib.tabIs_of_head (n := 20) (t := 246) (e := 192) gPow (by kernel_rfl) (by kernel_rfl) (by kernel_rfl) (by kernel_rfl) (by kernel_rfl) (laidMet.tail (laidMet.tail h))
  unfold Lib.TabIs World.var? at ht
  rw [gPow, Option.bind_some] at ht
  refine ⟨(fun _ _ h => by cases h), fun g p hg => ?_⟩
  have hg : objsR g = some p := hg
  unfold objsR at hg
  split at hg
  · rename_i e
    subst e
    obtain rfl := Option.some.inj hg
    split at ht
    · rename_i cs t fz hh
      obtain rfl := Option.some.inj ht
      exact ⟨(Array.getElem?_eq_some_iff.1 hh).1, _, _, _, hh, rfl⟩
    · cases ht
  · split at hg
    · rename_i e
      subst e
      obtain rfl := Option.some.inj hg
      exact cells_of_shaped (t := 3) (z := #[.int .i64 0]) hsh (of_decide_eq_true (by kernel_rfl)) (by kernel_rfl) rfl (by kernel_rfl) (by kernel_rfl) (by kernel_rfl)
    · cases hg
noncomputable def door (os : Os) : World := { World.doorLaid Tryz.prog 400 os with heap := (World.doorLaid Tryz.prog 400 os).heap.setIfInBounds 4 (.cells (Go.Pinned.utf8FirstZ.map fun (n : Nat) => Value.int .u8 (n : Int)).toArray 249 (0, 0)) }
theorem door_met (os : Os) (args : Array Value) : laidMetH Tryz.prog laidL ((door os).forCall (fun _ _ => 0) ⟨#[], args, []⟩).memory :=
  laidMetH_of_parts3 (fuel := 8) (laidMet_of_run' 8 (by kernel_rfl) (by kernel_rfl)) (by kernel_rfl) (by kernel_rfl)
set_option maxRecDepth 100000 in
theorem lifted (P : PureFnExactKeyGet) (os : Os) (started : os.Started) (H : Type) (enc : TypeId × Value → H) :
    ReturnsInHanded {} Tryz.checked os 4 .any (fun w args => (Rows.fnExactKeyGetSpec.pre enc Tryz.prog Tryz.f4 [] false w args ∧ laidMetH Tryz.prog laidL w) ∧ sizedMet enc Tryz.prog Tryz.f4 (OpenSpec.ofChange Rows.fnExactKeyGetSpec) false w args)
      (Rows.fnExactKeyGetSpec.post enc Tryz.prog Tryz.f4 false true false false) := by
  refine Go.Rf.returnsInHanded_of_change_and_shaped (C := Tryz.checked) (X := fun w _ => laidMetH Tryz.prog laidL w) (fun _ _ _ hh h => h.of_heap hh) own started (by kernel_rfl) Tryz.func4
    (ChangeSpec.witness_shaped (enc := enc) (C := Tryz.checked) (os := os) (X := fun w _ => laidMetH Tryz.prog laidL w) false (door os) #[.string ByteArray.empty, .bool false] 12 rfl (World.shaped_of_RefB (by kernel_rfl) (by kernel_rfl)) (by kernel_rfl) (by kernel_rfl) (by kernel_rfl) (door_met os _)) ?_
  intro W base args ds gs before hval0 hW _ _ hL hsh _
  have hGL := gl_of hL hsh
  have hval : ∀ (j : Nat) t v, Tryz.f4.params[j]? = some t → args[j]? = some v → Value.okWide Tryz.prog W .any base t v := hval0
  have hW' := hW
  obtain ⟨p, q, hA0, hV, rfl, hfz, hnd⟩ := hW
  have hA : DataW.TrodAll enc Tryz.prog W 0 (fun _ => true) true Tryz.f4.params.toList args.toList ds p := hA0
  rw [Tryz.params4] at hA hval
  obtain ⟨v0, vs0, d0, ds0, p0, q0, hargs, rfl, rfl, h0, r0⟩ := trodAll_cons hA
  obtain ⟨v1, vs1, d1, ds1, p1, q1, rfl, rfl, rfl, h1, r1⟩ := trodAll_cons r0
  obtain ⟨rfl, rfl, rfl⟩ := trodAll_nil r1
  obtain rfl : args = #[v0, v1] := by cases args; simp_all
  obtain ⟨rfl, rfl⟩ := trodVars_none hV
  have k0 := h0
  have lt0 : ∀ x ∈ p0, x.block < W.heap.size := by obtain ⟨m, hm⟩ := k0; exact DataW.trod_lt m _ _ _ hm
  obtain ⟨y0, hy0, w0⟩ := opnArg_ok (tab := tabs.ty) (P := Tryz.prog) (t := 9) (i := ⟨false, [.str], [], 16⟩) (by kernel_rfl) (hval 0 9 v0 rfl rfl) h0
  have k1 := h1
  have lt1 : ∀ x ∈ p1, x.block < W.heap.size := by obtain ⟨m, hm⟩ := k1; exact DataW.trod_lt m _ _ _ hm
  obtain ⟨y1, hy1, w1⟩ := opnArg_ok (tab := tabs.ty) (P := Tryz.prog) (t := 4) (i := ⟨false, [.bool], [], 1⟩) (by kernel_rfl) (hval 1 4 v1 rfl rfl) h1
  clear hA0 hval0
  refine (walk P W hGL v0 y0 v1 y1 hy0 w0 hy1 w1).mono fun e W' ⟨he, bel⟩ => ?_
  subst he
  exact ⟨_, rfl, _, _, _, [], _, [], hW', trodAll_mk1 (shut_bool Tryz.underlying4 _), (trodAll_cons_mk (Below.trod laidOut (by kernel_rfl) (of_decide_eq_true (by kernel_rfl)) k0 bel lt0) (trodAll_cons_mk (Below.trod laidOut (by kernel_rfl) (of_decide_eq_true (by kernel_rfl)) k1 bel lt1) trodAll_mk0)), rfl, bel.frame _, fun h => by cases h⟩
theorem over (P : PureFnExactKeyGet) : Rows.fnExactKeyGetRow.holds Tryz.pinned (OpenSpec.ofChange Rows.fnExactKeyGetSpec) :=
  OpenClaim.holds_of_wide 4 Tryz.f4 rfl rfl rfl rfl rfl rfl rfl ⟨rfl, rfl, rfl, rfl, rfl⟩ rfl rfl rfl rfl rfl (by kernel_rfl) Tryz.func4 (by kernel_rfl)
    (of_decide_eq_true (by kernel_rfl)) (by unfold Func.isWrapper; first | (rw [if_pos (by decide +kernel)]; kernel_rfl) | (rw [if_neg (by decide +kernel)]; exact ⟨rfl, rfl⟩))
    (fun os started H enc _ => lifted P os started H enc)
/-- THE TIED CARD. -/
theorem card (P : PureFnExactKeyGet) : Rows.FnExactKeyGetCardSaid :=
  Claim7.holds_tied_plain_at .later [] [.data, .data, .data, .data, .sentinel, .sentinel, .pinned] true (true, "60f3e9483d85c8b9b59a73f45859806bdb181c9694843932081c4f7b050b4116") true
    (over P) (fun _ h => by cases h) (by kernel_rfl) (fun _ h => by cases h) fnExactKeyGet_row_tie rfl ⟨rfl, rfl⟩ (by kernel_rfl) rfl
    (fun f fn hf hfn => by
      obtain rfl : f = 4 := Option.some.inj ((show Tryz.prog.funcNamed "loop.example/jetton/laws.FnExactKeyGet" = some 4 by kernel_rfl).symm.trans hf) |>.symm
      obtain rfl : fn = Tryz.f4 := (Option.some.inj (Tryz.func4.symm.trans hfn)).symm
      exact ⟨by kernel_rfl, fun j t ht => by
        rw [Tryz.params4] at ht
        have hm : t ∈ [9, 4] := by simpa using Array.mem_of_getElem? ht
        have hall : ([9, 4].all fun u => !Tryz.prog.wantsStandIn u) = true := by kernel_rfl
        exact (show Tryz.prog.wantsStandIn t = false by simpa using List.all_eq_true.1 hall t hm)⟩)
    (by kernel_rfl)
end Go.Proofs.YtiojgdjpigcgaaaGreatDoor.fnExactKeyGet
end

section
/-! Rf, limbs: noughts at the end; which is greater. -/
set_option autoImplicit false
namespace Go.Proofs.YtiojgdjpigcgaaaGreatDoor.R
open Go.Rf

theorem trimL : ∀ (n : Nat) (l : List Int), l.length = n → n ≤ 1000000 → InR l → Ev (fun k => F139c1 k l) ((digs (VI l).toNat, ()), ((), ())) := by
  intro n
  induction n with
  | zero =>
    intro l hl _ _
    obtain rfl := List.eq_nil_of_length_eq_zero hl
    refine Ev.step 1 (fun k => F139c1_eq k _) ?_
    simp only [List.length_nil, Int.ofNat_zero, gt_iff_lt, Int.lt_irrefl, decide_false, Bool.false_eq_true, if_false, VI, Int.toNat_zero, digs_zero]
    exact Ev.now _
  | succ n ih =>
    intro l hl hn hr
    have hlt : n < l.length := by omega
    refine Ev.step 1 (fun k => F139c1_eq k _) ?_
    simp only [gt_true (show 0 < l.length by omega), pred_len hl (by omega), ge0, if_true, Int.toNat_natCast, getI_of hlt, Option.bind_some, le_true (show n ≤ l.length by omega), Bool.and_self, slices0]
    cases h0 : (l.getD n 0 == 0) with
    | true =>
      have h0 : l.getD n 0 = 0 := by simpa using h0
      have hv : VI (l.take n) = VI l := VI_take_zero (fun i h1 h2 => by
        have : i = n := by omega
        rw [this, h0])
      have := ih (l.take n) (by rw [List.length_take]; omega) (by omega) (hr.take n)
      rw [hv] at this
      simpa only [if_true] using this
    | false =>
      have h0 : l.getD n 0 ≠ 0 := by simpa using h0
      rw [digs_VI hr (.inr (by rw [hl]; exact h0))]
      simp only [Bool.false_eq_true, if_false]
      exact Ev.now _
theorem trim_ev {l : List Int} (hr : InR l) (hl : l.length ≤ 1000000) : Ev (fun k => F139 k l) ((digs (VI l).toNat, ()), ((), ())) := Ev.step 2 (fun k => F139_eq k l) (trimL l.length l rfl hl hr)
theorem l1Trim_ev {l : List Int} (hr : InR l) (hl : l.length ≤ 1000000) : Ev (fun k => F224 k l) ((digs (VI l).toNat, ()), ((), ())) := by
  have key : ∀ n, n ≤ l.length → (∀ i, n ≤ i → i < l.length → l.getD i 0 = 0) → Ev (fun k => F224c2 k l (n : Int)) ((digs (VI l).toNat, ()), ((), ())) := by
    intro n
    induction n with
    | zero =>
      intro _ h0
      have hs := trim_upto (Nat.zero_le _) h0 (.inl rfl) hr
      refine Ev.step 1 (fun k => F224c2_eq k _ _) ?_
      have hc : decide (([] : List Int).length + (digs (VI l).toNat).length ≤ 17592186044416) = true := by rw [← hs]; simp
      have h1 : decide (((0 : Nat) : Int) > 0) = false := by decide
      simp only [h1, ge0, le_true (Nat.zero_le l.length), Bool.and_self, Bool.false_eq_true, if_false, if_true, Int.toNat_natCast, slices0, hc, List.nil_append, hs]
      exact Ev.now _
    | succ n ih =>
      intro hn h0
      have hlt : n < l.length := by omega
      have h1 : decide (((n + 1 : Nat) : Int) > 0) = true := decide_eq_true (by omega)
      have h2 : IntKind.i64.wrap (((n + 1 : Nat) : Int) - 1) = (n : Int) := by rw [wrap64 (by omega) (by omega)]; omega
      refine Ev.step 1 (fun k => F224c2_eq k _ _) ?_
      simp only [h1, h2, ge0, if_true, Int.toNat_natCast, getI_of hlt, Option.bind_some]
      cases hz : (l.getD n 0 == 0) with
      | true =>
        simp only [if_true]
        refine ih (by omega) fun i h3 h4 => ?_
        rcases Nat.eq_or_lt_of_le h3 with rfl | h5
        · simpa using hz
        · exact h0 i h5 h4
      | false =>
        have hz : l.getD n 0 ≠ 0 := by simpa using hz
        have hs := trim_upto hn h0 (.inr (by simpa using hz)) hr
        have hc : decide (([] : List Int).length + (digs (VI l).toNat).length ≤ 17592186044416) = true := by rw [← hs]; simp; omega
        simp only [Bool.false_eq_true, if_false, le_true hn, Bool.and_self, if_true, slices0, hc, List.nil_append, hs]
        exact Ev.now _
  exact Ev.step 2 (fun k => F224_eq k l) (key l.length (Nat.le_refl _) (fun i h1 h2 => by omega))
theorem digs_len_le {n : Nat} {m : Nat} (h : n < 10000 ^ m) : (digs n).length ≤ m := by
  induction m generalizing n with
  | zero =>
    have : n = 0 := by simp at h; omega
    rw [this, digs_zero]
    simp
  | succ m ih =>
    by_cases h0 : n = 0
    · rw [h0, digs_zero]
      simp
    · rw [digs_pos h0, List.length_cons]
      have := ih (n := n / 10000) (by rw [Nat.pow_succ] at h; omega)
      omega
section
variable {a b : List Int} {A B : Nat}
theorem l1CmpAbs_ev (ha : InR a) (hb : InR b) (ta : Trim a) (tb : Trim b) (hA : VI a = (A : Int)) (hB : VI b = (B : Int)) (la : a.length ≤ 1000000) : Ev (fun k => F206 k a b) ((cmpI A B, ()), ((), (), ())) := by
  refine Ev.step 2 (fun k => F206_eq k a b) ?_
  by_cases hl : a.length = b.length
  · have h0 : ((a.length : Int) != (b.length : Int)) = false := by simp [hl]
    simp only [h0, Bool.false_eq_true, if_false]
    have key : ∀ m, m ≤ a.length → (∀ j, m ≤ j → j < a.length → a.getD j 0 = b.getD j 0) → Ev (fun k => F206c6 k a b ((m : Int) - 1)) ((cmpI A B, ()), ((), (), ())) := by
      intro m
      induction m with
      | zero =>
        intro _ h
        have := ext_getD hl (fun j hj => h j (by omega) hj)
        have hAB : A = B := by rw [this, hB] at hA; omega
        rw [hAB, cmpI_eq]
        exact Ev.step 1 (fun k => F206c6_eq k _ _ _) (Ev.now _)
      | succ m ih =>
        intro hm h
        have e : ((m + 1 : Nat) : Int) - 1 = (m : Int) := by omega
        have hma : m < a.length := by omega
        have hmb : m < b.length := by omega
        have hge : decide ((m : Int) ≥ 0) = true := by simp
        have r1 := ha.at hma
        have r2 := hb.at hmb
        rw [e]
        refine Ev.step 1 (fun k => F206c6_eq k _ _ _) ?_
        simp only [hge, if_true, Int.toNat_natCast, getI_of hma, getI_of hmb, Option.bind_some]
        rcases Int.lt_trichotomy (a.getD m 0) (b.getD m 0) with hlt | heq | hgt
        · have := VI_first_lt hl hma (fun j h1 h2 => h j h1 h2) hlt ha hb
          rw [cmpI_lt (by omega)]
          simp only [hlt, decide_true, if_true]
          exact Ev.now _
        · have n1 : ¬ a.getD m 0 < b.getD m 0 := by omega
          have n2 : ¬ a.getD m 0 > b.getD m 0 := by omega
          simp only [n1, n2, decide_false, Bool.false_eq_true, if_false]
          rw [wrap64 (by omega) (by omega)]
          refine ih (by omega) fun j h1 h2 => ?_
          rcases Nat.eq_or_lt_of_le h1 with rfl | h3
          · exact heq
          · exact h j h3 h2
        · have := VI_first_lt hl.symm hmb (fun j h1 h2 => (h j h1 (by omega)).symm) hgt hb ha
          rw [cmpI_gt (by omega)]
          have n1 : ¬ a.getD m 0 < b.getD m 0 := by omega
          have n2 : a.getD m 0 > b.getD m 0 := by omega
          simp only [n1, n2, decide_false, decide_true, Bool.false_eq_true, if_false, if_true]
          exact Ev.now _
    rw [wrap64 (by omega) (by omega)]
    exact key a.length (Nat.le_refl _) (fun j h1 h2 => by omega)
  · have h0 : ((a.length : Int) != (b.length : Int)) = true := by simp; omega
    simp only [h0, if_true]
    rcases Nat.lt_or_ge a.length b.length with h1 | h1
    · have := VI_len_lt ha hb tb h1
      rw [cmpI_lt (by omega)]
      simp only [lt_true h1, if_true]
      exact Ev.now _
    · have := VI_len_lt hb ha ta (by omega)
      rw [cmpI_gt (by omega)]
      simp only [lt_false h1, Bool.false_eq_true, if_false]
      exact Ev.now _
theorem clamp_neg {D : Int} (h : D < 0) : (if (if D < 1 then D else 1) > -1 then (if D < 1 then D else 1) else -1) = -1 := by
  rw [if_pos (show D < 1 by omega), if_neg (by omega)]
theorem clamp_pos {D : Int} (h : 0 < D) : (if (if D < 1 then D else 1) > -1 then (if D < 1 then D else 1) else -1) = 1 := by
  rw [if_neg (show ¬ D < 1 by omega), if_pos (by omega)]
theorem cmp_ev (ha : InR a) (hb : InR b) (ta : Trim a) (tb : Trim b) (hA : VI a = (A : Int)) (hB : VI b = (B : Int)) (la : a.length ≤ 1000000) (lb : b.length ≤ 1000000) : Ev (fun k => F199 k a b) ((cmpI A B, ()), ((), (), ())) := by
  refine Ev.step 2 (fun k => F199_eq k a b) ?_
  by_cases hl : a.length = b.length
  · have h0 : ((a.length : Int) != (b.length : Int)) = false := by simp [hl]
    simp only [h0, Bool.false_eq_true, if_false]
    have key : ∀ m, m ≤ a.length → (∀ j, m ≤ j → j < a.length → a.getD j 0 = b.getD j 0) → Ev (fun k => F199c4 k a b ((m : Int) - 1)) ((cmpI A B, ()), ((), (), ())) := by
      intro m
      induction m with
      | zero =>
        intro _ h
        have := ext_getD hl (fun j hj => h j (by omega) hj)
        have hAB : A = B := by rw [this, hB] at hA; omega
        rw [hAB, cmpI_eq]
        exact Ev.step 1 (fun k => F199c4_eq k _ _ _) (Ev.now _)
      | succ m ih =>
        intro hm h
        have e : ((m + 1 : Nat) : Int) - 1 = (m : Int) := by omega
        have hma : m < a.length := by omega
        have hmb : m < b.length := by omega
        have hge : decide ((m : Int) ≥ 0) = true := by simp
        have r1 := ha.at hma
        have r2 := hb.at hmb
        rw [e]
        refine Ev.step 1 (fun k => F199c4_eq k _ _ _) ?_
        simp only [hge, if_true, Int.toNat_natCast, getI_of hma, getI_of hmb, Option.bind_some]
        rcases Int.lt_trichotomy (a.getD m 0) (b.getD m 0) with hlt | heq | hgt
        · have := VI_first_lt hl hma (fun j h1 h2 => h j h1 h2) hlt ha hb
          have hne : (a.getD m 0 != b.getD m 0) = true := bne_iff_ne.2 (by omega)
          rw [cmpI_lt (by omega), wrap64 (n := a.getD m 0 - b.getD m 0) (by omega) (by omega)]
          simp only [hne, if_true, clamp_neg (show a.getD m 0 - b.getD m 0 < 0 by omega)]
          exact Ev.now _
        · have hne : (a.getD m 0 != b.getD m 0) = false := by rw [heq, bne_self_eq_false]
          simp only [hne, Bool.false_eq_true, if_false]
          rw [wrap64 (by omega) (by omega)]
          refine ih (by omega) fun j h1 h2 => ?_
          rcases Nat.eq_or_lt_of_le h1 with rfl | h3
          · exact heq
          · exact h j h3 h2
        · have := VI_first_lt hl.symm hmb (fun j h1 h2 => (h j h1 (by omega)).symm) hgt hb ha
          have hne : (a.getD m 0 != b.getD m 0) = true := bne_iff_ne.2 (by omega)
          rw [cmpI_gt (by omega), wrap64 (n := a.getD m 0 - b.getD m 0) (by omega) (by omega)]
          simp only [hne, if_true, clamp_pos (show 0 < a.getD m 0 - b.getD m 0 by omega)]
          exact Ev.now _
    rw [wrap64 (by omega) (by omega)]
    exact key a.length (Nat.le_refl _) (fun j h1 h2 => by omega)
  · have h0 : ((a.length : Int) != (b.length : Int)) = true := by simp; omega
    simp only [h0, if_true]
    rw [wrap64 (n := (a.length : Int) - b.length) (by omega) (by omega)]
    rcases Nat.lt_or_ge a.length b.length with h1 | h1
    · have := VI_len_lt ha hb tb h1
      rw [cmpI_lt (by omega), clamp_neg (by omega)]
      exact Ev.now _
    · have := VI_len_lt hb ha ta (by omega)
      rw [cmpI_gt (by omega), clamp_pos (by omega)]
      exact Ev.now _
end
end Go.Proofs.YtiojgdjpigcgaaaGreatDoor.R
end

section
/-! Rf, limbs: sums and differences. -/
set_option autoImplicit false
namespace Go.Proofs.YtiojgdjpigcgaaaGreatDoor.R
open Go.Rf
section
variable {a b : List Int} {A B : Nat}
theorem clone_ev (l : List Int) (h : l.length ≤ 1000000) : Ev (fun k => F227 k l) ((l, ()), ((), ())) := by
  refine Ev.step 2 (fun k => F227_eq k l) ?_
  have hc : decide (([] : List Int).length + l.length ≤ 17592186044416) = true := decide_eq_true (by simp; omega)
  simp only [hc, if_true, List.nil_append]
  cases l with
  | nil =>
    rw [bothK_same]
    exact Ev.now _
  | cons x l =>
    have : emptyL (x :: l) = false := rfl
    rw [this, bothK_false]
    exact Ev.now _
theorem VI_last {l : List Int} {n : Nat} (h : l.length = n + 1) : VI l = VI (l.take n) + l.getD n 0 * 10000 ^ n := by
  rw [← VI_take_succ (by omega), ← h, List.take_length]
/-- the borrow runs up -/
theorem subC {M : Nat} (hM : M ≤ 200001) {S : Int} (hS0 : 0 ≤ S) : ∀ (m i : Nat) (x : List Int), i + m = M → x.length = M → VI x = S → (∀ j, j < i → 0 ≤ x.getD j 0 ∧ x.getD j 0 ≤ 9999) → (∀ j, i < j → j < M → -9999 ≤ x.getD j 0 ∧ x.getD j 0 ≤ 9999) →
    (i < M → -10000 ≤ x.getD i 0 ∧ x.getD i 0 ≤ 9999) → Ev (fun k => F200c8 k x (M : Int) (i : Int)) ((digs S.toNat, ()), ((), (), ())) := by
  intro m
  induction m with
  | zero =>
    intro i x hi hx hS h1 _ _
    have hiM : i = M := by omega
    subst hiM
    refine Ev.step 1 (fun k => F200c8_eq k _ _ _) ?_
    simp only [lt_false (Nat.le_refl i), Bool.false_eq_true, if_false]
    have hr : InR x := InR.of fun j hj => h1 j (by omega)
    have := trim_ev hr (by omega)
    rw [hS] at this
    exact Ev.bind this (Ev.now _)
  | succ m ih =>
    intro i x hi hx hS h1 h2 h3
    have hiM : i < M := by omega
    have l0 : i < x.length := by omega
    have r0 := h3 hiM
    refine Ev.step 1 (fun k => F200c8_eq k _ _ _) ?_
    simp only [lt_true hiM, lt_true l0, ge0, Bool.and_self, if_true, Int.toNat_natCast, getI_of l0, Option.bind_some]
    by_cases hneg : x.getD i 0 < 0
    · have l1 : i + 1 < x.length := by
        rcases Nat.lt_or_ge (i + 1) x.length with h | h
        · exact h
        · exfalso
          have hx1 : x.length = i + 1 := by omega
          have hr : InR (x.take i) := InR.of fun j hj => by
            have hj' : j < i := by rw [List.length_take] at hj; omega
            have := h1 j hj'
            rw [List.getD_eq_getElem?_getD, List.getElem?_take_of_lt hj', ← List.getD_eq_getElem?_getD]
            exact this
          have h4 := VI_lt hr
          rw [List.length_take, Nat.min_eq_left (by omega)] at h4
          have h5 := VI_last hx1
          rw [hS] at h5
          have h6 : x.getD i 0 * 10000 ^ i ≤ -1 * 10000 ^ i := Int.mul_le_mul_of_nonneg_right (by omega) (Int.le_of_lt (pow_pos i))
          omega
      have hset : i + 1 < (x.set i (x.getD i 0 + 10000)).length := by rw [List.length_set]; exact l1
      have w1 : IntKind.i64.wrap (x.getD i 0 + 10000) = x.getD i 0 + 10000 := wrap64 (by omega) (by omega)
      have r1 := h2 (i + 1) (by omega) (by omega)
      have hget : (x.set i (x.getD i 0 + 10000)).getD (i + 1) 0 = x.getD (i + 1) 0 := by rw [getI_set l0, if_neg (by omega)]
      have w2 : IntKind.i64.wrap (x.getD (i + 1) 0 - 1) = x.getD (i + 1) 0 - 1 := wrap64 (by omega) (by omega)
      simp only [hneg, decide_true, if_true, wrap_succ (show i < 9223372036854775807 by omega), ge0, w1, lt_true hset, Bool.and_self, Int.toNat_natCast, getI_of hset, Option.bind_some, hget, w2]
      refine Ev.step 1 (fun k => F200c13_eq k _ _ _) ?_
      rw [wrap_succ (by omega)]
      have hgets : ∀ j, ((x.set i (x.getD i 0 + 10000)).set (i + 1) (x.getD (i + 1) 0 - 1)).getD j 0 = if j = i + 1 then x.getD (i + 1) 0 - 1 else if j = i then x.getD i 0 + 10000 else x.getD j 0 := fun j => by
        rw [getI_set hset, getI_set l0]
      refine ih (i + 1) _ (by omega) (by simpa using hx) ?_ (fun j hj => ?_) (fun j hj hj2 => ?_) (fun hj => ?_)
      · rw [VI_set hset, VI_set l0, hget, hS, Int.pow_succ]
        grind
      · rw [hgets, if_neg (by omega)]
        split
        · omega
        · exact h1 j (by omega)
      · rw [hgets, if_neg (by omega), if_neg (by omega)]
        exact h2 j (by omega) hj2
      · rw [hgets, if_pos rfl]
        omega
    · simp only [hneg, decide_false, Bool.false_eq_true, if_false]
      refine Ev.step 1 (fun k => F200c13_eq k _ _ _) ?_
      rw [wrap_succ (by omega)]
      refine ih (i + 1) _ (by omega) hx hS (fun j hj => ?_) (fun j hj hj2 => h2 j (by omega) hj2) (fun hj => ?_)
      · rcases Nat.eq_or_lt_of_le (Nat.le_of_lt_succ hj) with rfl | h
        · omega
        · exact h1 j h
      · have := h2 (i + 1) (by omega) hj
        omega
theorem sub_ev (ha : InR a) (hb : InR b) (tb : Trim b) (la : a.length ≤ 100000) (hle : VI b ≤ VI a) : Ev (fun k => F200 k a b) ((digs (VI a - VI b).toNat, ()), ((), (), ())) := by
  have hlen : b.length ≤ a.length := by
    rcases Nat.lt_or_ge a.length b.length with h | h
    · have := VI_len_lt ha hb tb h
      omega
    · exact h
  refine Ev.step 2 (fun k => F200_eq k a b) (Ev.bind (clone_ev a (by omega)) ?_)
  have key : ∀ (m i : Nat) (x : List Int), i + m = b.length → x.length = a.length → VI x = VI a - VI (b.take i) → (∀ j, j < i → -9999 ≤ x.getD j 0 ∧ x.getD j 0 ≤ 9999) → (∀ j, i ≤ j → j < a.length → 0 ≤ x.getD j 0 ∧ x.getD j 0 ≤ 9999) →
      Ev (fun k => F200c3 k x b (b.length : Int) (i : Int)) ((digs (VI a - VI b).toNat, ()), ((), (), ())) := by
    intro m
    induction m with
    | zero =>
      intro i x hi hx hV g1 g2
      have hib : i = b.length := by omega
      subst hib
      refine Ev.step 1 (fun k => F200c3_eq k _ _ _ _) ?_
      simp only [lt_false (Nat.le_refl b.length), Bool.false_eq_true, if_false]
      rw [VI_take_all] at hV
      have hall : ∀ j, j < x.length → -9999 ≤ x.getD j 0 ∧ x.getD j 0 ≤ 9999 := fun j hj => by
        rcases Nat.lt_or_ge j b.length with h | h
        · exact g1 j h
        · have := g2 j h (by omega)
          omega
      exact subC (by omega) (by omega) x.length 0 x (by omega) rfl hV (fun j hj => by omega) (fun j _ hj => hall j hj) (fun hj => by have := hall 0 hj; omega)
    | succ m ih =>
      intro i x hi hx hV g1 g2
      have hib : i < b.length := by omega
      have l0 : i < x.length := by omega
      have rb := hb.at hib
      have rx := g2 i (Nat.le_refl _) (by omega)
      have w1 : IntKind.i64.wrap (x.getD i 0 - b.getD i 0) = x.getD i 0 - b.getD i 0 := wrap64 (by omega) (by omega)
      refine Ev.step 1 (fun k => F200c3_eq k _ _ _ _) ?_
      simp only [lt_true hib, lt_true l0, ge0, Bool.and_self, if_true, Int.toNat_natCast, getI_of hib, getI_of l0, Option.bind_some, w1, wrap_succ (show i < 9223372036854775807 by omega)]
      refine ih (i + 1) _ (by omega) (by simpa using hx) ?_ (fun j hj => ?_) (fun j hj hj2 => ?_)
      · rw [VI_set l0, VI_take_succ hib, hV]
        grind
      · rw [getI_set l0]
        split
        · omega
        · exact g1 j (by omega)
      · rw [getI_set l0, if_neg (by omega)]
        exact g2 j (by omega) hj2
  exact key b.length 0 a (by omega) rfl (by simp [VI]) (fun j hj => by omega) (fun j _ hj => ha.at hj)
end
end Go.Proofs.YtiojgdjpigcgaaaGreatDoor.R
end

section
/-! Rf, limbs: products, powers of ten. -/
set_option autoImplicit false
namespace Go.Proofs.YtiojgdjpigcgaaaGreatDoor.R
open Go.Rf
theorem mul_small {x y : Int} (hx : 0 ≤ x ∧ x ≤ 9999) (hy : 0 ≤ y ∧ y ≤ 9999) : 0 ≤ x * y ∧ x * y ≤ 99980001 := by
  refine ⟨Int.mul_nonneg hx.1 hy.1, ?_⟩
  have := Int.mul_le_mul hx.2 hy.2 hy.1 (show (0 : Int) ≤ 9999 by omega)
  omega
theorem addN {i k : Nat} (h : i + k < 4611686018427387904) : IntKind.i64.wrap ((i : Int) + (k : Int)) = ((i + k : Nat) : Int) := by
  rw [wrap64 (by omega) (by omega)]
  omega
/-- one limb more of a product's row -/
theorem VI_row {x : List Int} {i k : Nat} {V0 ai c s n : Int} {b : List Int} (hk : k < b.length) (hx : i + k < x.length) (hV : VI x + c * 10000 ^ (i + k) = V0 + ai * VI (b.take k) * 10000 ^ i) (hn : n = x.getD (i + k) 0 + ai * b.getD k 0 + c) (hs : s = n % 10000) :
    VI (x.set (i + k) s) + n / 10000 * 10000 ^ (i + (k + 1)) = V0 + ai * VI (b.take (k + 1)) * 10000 ^ i := by
  have e1 : n = 10000 * (n / 10000) + s := by omega
  have e2 : (10000 : Int) ^ (i + (k + 1)) = 10000 ^ (i + k) * 10000 := by rw [← Nat.add_assoc, Int.pow_succ]
  have e3 : (10000 : Int) ^ (i + k) = 10000 ^ i * 10000 ^ k := Int.pow_add 10000 i k
  rw [VI_set hx, VI_take_succ hk, e2]
  rw [e3] at hV ⊢
  grind
section
variable {a b : List Int}
theorem mulI (ha : InR a) (hb : InR b) (la : a.length ≤ 100000) (lb : b.length ≤ 100000) {i : Nat} (hi : i < a.length) {V0 : Int} {R : (List Int × Unit) × (Unit × Unit × Unit)}
    (hR : ∀ x : List Int, x.length = a.length + b.length + 1 → VI x = V0 + a.getD i 0 * VI b * 10000 ^ i → InR x → (∀ j, i + 1 + b.length ≤ j → x.getD j 0 = 0) → Ev (fun k => F196c3 k b x a (a.length : Int) ((i + 1 : Nat) : Int)) R) :
    ∀ (m n : Nat) (x : List Int) (c : Int), n + m = b.length → x.length = a.length + b.length + 1 → VI x + c * 10000 ^ (i + n) = V0 + a.getD i 0 * VI (b.take n) * 10000 ^ i → InR x → (0 ≤ c ∧ c ≤ 9999) → (∀ j, i + b.length ≤ j → x.getD j 0 = 0) →
    Ev (fun k => F196c7 k b x (i : Int) (a.getD i 0) c a (a.length : Int) (i : Int) b (b.length : Int) (n : Int)) R := by
  intro m
  induction m with
  | zero =>
    intro n x c hn hx hV hr hc h0
    have hnb : n = b.length := by omega
    subst hnb
    have l0 : i + b.length < x.length := by omega
    have hz := h0 (i + b.length) (Nat.le_refl _)
    have w1 : IntKind.i64.wrap (0 + c) = c := by rw [wrap64 (by omega) (by omega)]; omega
    refine Ev.step 1 (fun k => F196c7_eq k _ _ _ _ _ _ _ _ _ _ _) ?_
    simp only [lt_false (Nat.le_refl b.length), Bool.false_eq_true, if_false, addN (show i + b.length < 4611686018427387904 by omega), ge0, lt_true l0, Bool.and_self, if_true, Int.toNat_natCast, getI_of l0, Option.bind_some, hz, w1, wrap_succ (show i < 9223372036854775807 by omega)]
    rw [VI_take_all] at hV
    refine hR _ (by simpa using hx) ?_ (InR.of fun j hj => ?_) (fun j hj => ?_)
    · rw [VI_set l0, hz, ← hV, Int.sub_zero]
    · rw [getI_set l0]
      split
      · omega
      · exact hr.at (by simpa using hj)
    · rw [getI_set l0, if_neg (by omega)]
      exact h0 j (by omega)
  | succ m ih =>
    intro n x c hn hx hV hr hc h0
    have hnb : n < b.length := by omega
    have l0 : i + n < x.length := by omega
    have ra := ha.at hi
    have rb := hb.at hnb
    have rx := hr.at l0
    have rm := mul_small ra rb
    obtain ⟨v, hv⟩ : ∃ v, v = x.getD (i + n) 0 + a.getD i 0 * b.getD n 0 + c := ⟨_, rfl⟩
    have w1 : IntKind.i64.wrap (a.getD i 0 * b.getD n 0) = a.getD i 0 * b.getD n 0 := wrap64 (by omega) (by omega)
    have w2 : IntKind.i64.wrap (x.getD (i + n) 0 + a.getD i 0 * b.getD n 0) = x.getD (i + n) 0 + a.getD i 0 * b.getD n 0 := wrap64 (by omega) (by omega)
    have w3 : IntKind.i64.wrap v = v := wrap64 (by omega) (by omega)
    have hv0 : 0 ≤ v := by omega
    refine Ev.step 1 (fun k => F196c7_eq k _ _ _ _ _ _ _ _ _ _ _) ?_
    simp only [lt_true hnb, addN (show i + n < 4611686018427387904 by omega), ge0, lt_true l0, Bool.and_self, if_true, Int.toNat_natCast, getI_of hnb, getI_of l0, Option.bind_some, w1, w2, ← hv, w3, tdiv_pos hv0, tmod_pos hv0, wrap_succ (show n < 9223372036854775807 by omega)]
    rw [wrap64 (n := v / 10000) (by omega) (by omega)]
    refine ih (n + 1) _ _ (by omega) (by simpa using hx) (VI_row hnb l0 hV hv rfl) (InR.of fun j hj => ?_) (by omega) (fun j hj => ?_)
    · rw [getI_set l0]
      split
      · omega
      · exact hr.at (by simpa using hj)
    · rw [getI_set l0, if_neg (by omega)]
      exact h0 j hj
theorem mul_ev (ha : InR a) (hb : InR b) (la : a.length ≤ 100000) (lb : b.length ≤ 100000) : Ev (fun k => F196 k a b) ((digs (VI a * VI b).toNat, ()), ((), (), ())) := by
  have e1 : IntKind.i64.wrap (((a.length + b.length : Nat) : Int) + 1) = ((a.length + b.length + 1 : Nat) : Int) := wrap_succ (by omega)
  have hc : decide (((a.length + b.length + 1 : Nat) : Int) ≤ (17592186044416 : Int)) = true := decide_eq_true (by omega)
  refine Ev.step 2 (fun k => F196_eq k a b) ?_
  simp only [addN (show a.length + b.length < 4611686018427387904 by omega), e1, ge0, le_true (Nat.le_refl (a.length + b.length + 1)), hc, Bool.and_self, if_true, Int.toNat_natCast]
  have key : ∀ (m i : Nat) (x : List Int), i + m = a.length → x.length = a.length + b.length + 1 → VI x = VI (a.take i) * VI b → InR x → (∀ j, i + b.length ≤ j → x.getD j 0 = 0) → Ev (fun k => F196c3 k b x a (a.length : Int) (i : Int)) ((digs (VI a * VI b).toNat, ()), ((), (), ())) := by
    intro m
    induction m with
    | zero =>
      intro i x hi hx hV hr _
      have hia : i = a.length := by omega
      subst hia
      refine Ev.step 1 (fun k => F196c3_eq k _ _ _ _ _) ?_
      simp only [lt_false (Nat.le_refl a.length), Bool.false_eq_true, if_false]
      have := trim_ev hr (by omega)
      rw [hV, VI_take_all] at this
      exact Ev.bind this (Ev.now _)
    | succ m ih =>
      intro i x hi hx hV hr h0
      have hia : i < a.length := by omega
      refine Ev.step 1 (fun k => F196c3_eq k _ _ _ _ _) ?_
      simp only [lt_true hia, ge0, if_true, Int.toNat_natCast, getI_of hia, Option.bind_some]
      refine mulI ha hb la lb hia (V0 := VI (a.take i) * VI b) (fun y h1 h2 h3 h4 => ih (i + 1) y (by omega) h1 ?_ h3 h4) b.length 0 x 0 (by omega) hx ?_ hr (by omega) h0
      · rw [h2, VI_take_succ hia]
        grind
      · rw [hV]
        simp [VI]
  have hz : ∀ j, (List.replicate (a.length + b.length + 1) (0 : Int)).getD j 0 = 0 := fun j => by
    rw [List.getD_eq_getElem?_getD, List.getElem?_replicate]
    split <;> rfl
  exact key a.length 0 _ (by omega) (by simp) (by rw [VI_zeros]; simp [VI]) (fun d hd => by rw [(List.mem_replicate.1 hd).2]; omega) (fun j _ => hz j)
theorem limb_ev {i : Nat} : Ev (fun k => F228 k b (i : Int)) ((b.getD i 0, ()), ((), (), ())) := by
  refine Ev.step 2 (fun k => F228_eq k b i) ?_
  rcases Nat.lt_or_ge i b.length with h | h
  · simp only [lt_true h, ge0, if_true, Int.toNat_natCast, getI_of h, Option.bind_some]
    exact Ev.now _
  · simp only [lt_false h, Bool.false_eq_true, if_false]
    rw [List.getD_eq_getElem?_getD, List.getElem?_eq_none h]
    exact Ev.now _
theorem l1MulI (ha : InR a) (hb : InR b) (la : a.length ≤ 100000) (lb : b.length ≤ 100000) {i : Nat} (hi : i < a.length) {V0 : Int} {R : (List Int × Unit) × (Unit × Unit × Unit)}
    (hR : ∀ x : List Int, x.length = a.length + b.length → VI x = V0 + a.getD i 0 * VI b * 10000 ^ i → InR x → (∀ j, i + 1 + b.length ≤ j → x.getD j 0 = 0) → Ev (fun k => F204c3 k a b x ((i + 1 : Nat) : Int)) R) :
    ∀ (m n : Nat) (x : List Int) (c : Int), n + m = b.length → x.length = a.length + b.length → VI x + c * 10000 ^ (i + n) = V0 + a.getD i 0 * VI (b.take n) * 10000 ^ i → InR x → (0 ≤ c ∧ c ≤ 9999) → (∀ j, i + b.length ≤ j → x.getD j 0 = 0) →
    Ev (fun k => F204c7 k a b x (i : Int) c (n : Int)) R := by
  intro m
  have ra := ha.at hi
  induction m with
  | zero =>
    intro n x c hn hx hV hr hc h0
    have hnb : n = b.length := by omega
    subst hnb
    have l0 : i + b.length < x.length := by omega
    have hz := h0 (i + b.length) (Nat.le_refl _)
    rw [VI_take_all] at hV
    refine Ev.step 1 (fun k => F204c7_eq k _ _ _ _ _ _) ?_
    simp only [lt_false (Nat.le_refl b.length), Bool.false_eq_true, if_false]
    by_cases hpos : c > 0
    · have hlimb : b.getD b.length 0 = 0 := by rw [List.getD_eq_getElem?_getD, List.getElem?_eq_none (Nat.le_refl _)]; rfl
      simp only [hpos, decide_true, if_true, addN (show i + b.length < 4611686018427387904 by omega), ge0, lt_true l0, Bool.and_self, Int.toNat_natCast, getI_of l0, getI_of hi, Option.bind_some]
      refine Ev.bind limb_ev ?_
      have e0 : IntKind.i64.wrap (a.getD i 0 * 0) = 0 := by rw [Int.mul_zero]; decide
      have e1 : IntKind.i64.wrap ((0 : Int) + 0) = 0 := by decide
      have e2 : IntKind.i64.wrap (0 + c) = c := by rw [wrap64 (by omega) (by omega)]; omega
      have e3 : c / 10000 = 0 := by omega
      have e4 : c % 10000 = c := by omega
      have e5 : IntKind.i64.wrap (0 : Int) = 0 := by decide
      simp only [hlimb, hz, e0, e1, e2, tdiv_pos hc.1, tmod_pos hc.1, e3, e4, e5, wrap_succ (show b.length < 9223372036854775807 by omega)]
      have hgt : decide (((b.length + 1 : Nat) : Int) < (b.length : Int)) = false := lt_false (by omega)
      have h00 : decide ((0 : Int) > 0) = false := by decide
      refine Ev.step 1 (fun k => F204c7_eq k _ _ _ _ _ _) ?_
      simp only [hgt, h00, Bool.false_eq_true, if_false, wrap_succ (show i < 9223372036854775807 by omega)]
      refine hR _ (by simpa using hx) ?_ (InR.of fun j hj => ?_) (fun j hj => ?_)
      · rw [VI_set l0, hz, ← hV, Int.sub_zero]
      · rw [getI_set l0]
        split
        · omega
        · exact hr.at (by simpa using hj)
      · rw [getI_set l0, if_neg (by omega)]
        exact h0 j (by omega)
    · have hc0 : c = 0 := by omega
      subst hc0
      simp only [hpos, decide_false, Bool.false_eq_true, if_false, wrap_succ (show i < 9223372036854775807 by omega)]
      refine hR x hx (by rw [← hV]; omega) hr (fun j hj => h0 j (by omega))
  | succ m ih =>
    intro n x c hn hx hV hr hc h0
    have hnb : n < b.length := by omega
    have l0 : i + n < x.length := by omega
    have rb := hb.at hnb
    have rx := hr.at l0
    have rm := mul_small ra rb
    obtain ⟨v, hv⟩ : ∃ v, v = x.getD (i + n) 0 + a.getD i 0 * b.getD n 0 + c := ⟨_, rfl⟩
    have w1 : IntKind.i64.wrap (a.getD i 0 * b.getD n 0) = a.getD i 0 * b.getD n 0 := wrap64 (by omega) (by omega)
    have w2 : IntKind.i64.wrap (x.getD (i + n) 0 + a.getD i 0 * b.getD n 0) = x.getD (i + n) 0 + a.getD i 0 * b.getD n 0 := wrap64 (by omega) (by omega)
    have w3 : IntKind.i64.wrap v = v := wrap64 (by omega) (by omega)
    have hv0 : 0 ≤ v := by omega
    refine Ev.step 1 (fun k => F204c7_eq k _ _ _ _ _ _) ?_
    simp only [lt_true hnb, addN (show i + n < 4611686018427387904 by omega), ge0, lt_true l0, Bool.and_self, if_true, Int.toNat_natCast, getI_of hi, getI_of l0, Option.bind_some]
    refine Ev.bind limb_ev ?_
    simp only [w1, w2, ← hv, w3, tdiv_pos hv0, tmod_pos hv0, wrap_succ (show n < 9223372036854775807 by omega)]
    rw [wrap64 (n := v / 10000) (by omega) (by omega)]
    refine ih (n + 1) _ _ (by omega) (by simpa using hx) (VI_row hnb l0 hV hv rfl) (InR.of fun j hj => ?_) (by omega) (fun j hj => ?_)
    · rw [getI_set l0]
      split
      · omega
      · exact hr.at (by simpa using hj)
    · rw [getI_set l0, if_neg (by omega)]
      exact h0 j hj
theorem l1MulAbs_ev (ha : InR a) (hb : InR b) (la : a.length ≤ 100000) (lb : b.length ≤ 100000) : Ev (fun k => F204 k a b) ((digs (VI a * VI b).toNat, ()), ((), (), ())) := by
  have hc : decide (((a.length + b.length : Nat) : Int) ≤ (17592186044416 : Int)) = true := decide_eq_true (by omega)
  refine Ev.step 2 (fun k => F204_eq k a b) ?_
  simp only [addN (show a.length + b.length < 4611686018427387904 by omega), ge0, le_true (Nat.le_refl (a.length + b.length)), hc, Bool.and_self, if_true, Int.toNat_natCast]
  have key : ∀ (m i : Nat) (x : List Int), i + m = a.length → x.length = a.length + b.length → VI x = VI (a.take i) * VI b → InR x → (∀ j, i + b.length ≤ j → x.getD j 0 = 0) → Ev (fun k => F204c3 k a b x (i : Int)) ((digs (VI a * VI b).toNat, ()), ((), (), ())) := by
    intro m
    induction m with
    | zero =>
      intro i x hi hx hV hr _
      have hia : i = a.length := by omega
      subst hia
      refine Ev.step 1 (fun k => F204c3_eq k _ _ _ _) ?_
      simp only [lt_false (Nat.le_refl a.length), Bool.false_eq_true, if_false]
      have := l1Trim_ev hr (by omega)
      rw [hV, VI_take_all] at this
      exact Ev.bind this (Ev.now _)
    | succ m ih =>
      intro i x hi hx hV hr h0
      have hia : i < a.length := by omega
      refine Ev.step 1 (fun k => F204c3_eq k _ _ _ _) ?_
      simp only [lt_true hia, if_true]
      refine l1MulI ha hb la lb hia (V0 := VI (a.take i) * VI b) (fun y h1 h2 h3 h4 => ih (i + 1) y (by omega) h1 ?_ h3 h4) b.length 0 x 0 (by omega) hx ?_ hr (by omega) h0
      · rw [h2, VI_take_succ hia]
        grind
      · rw [hV]
        simp [VI]
  have hz : ∀ j, (List.replicate (a.length + b.length) (0 : Int)).getD j 0 = 0 := fun j => by
    rw [List.getD_eq_getElem?_getD, List.getElem?_replicate]
    split <;> rfl
  exact key a.length 0 _ (by omega) (by simp) (by rw [VI_zeros]; simp [VI]) (fun d hd => by rw [(List.mem_replicate.1 hd).2]; omega) (fun j _ => hz j)
end
theorem digs_small {n : Nat} (h : 0 < n) (h2 : n < 10000) : digs n = [(n : Int)] := by
  rw [digs_pos (by omega), Nat.div_eq_of_lt h2, Nat.mod_eq_of_lt h2, digs_zero]
theorem VI_digs (n : Nat) : VI (digs n) = (n : Int) := (digs_spec n).2.2
theorem ten_len (i : Nat) : (digs (10 ^ i)).length ≤ i + 1 := digs_len_le (by
  have h1 : 10 ^ i ≤ 10000 ^ i := Nat.pow_le_pow_left (by omega) i
  have h2 : 0 < 10000 ^ i := Nat.pow_pos (by omega)
  rw [Nat.pow_succ]
  omega)
theorem tens_digs (q : Nat) {t : Nat} (h0 : 0 < t) (h1 : t < 10000) : List.replicate q (0 : Int) ++ [(t : Int)] = digs (t * 10000 ^ q) := by
  refine digs_of (fun d hd => ?_) (.inr ?_) ?_
  · rcases List.mem_append.1 hd with hd | hd
    · rw [(List.mem_replicate.1 hd).2]
      omega
    · rw [List.mem_singleton.1 hd]
      omega
  · rw [List.length_append, List.length_replicate, List.getD_eq_getElem?_getD, List.getElem?_append_right (by simp)]
    simp
    omega
  · rw [VI_append, VI_zeros, List.length_replicate]
    show (0 : Int) + 10000 ^ q * ((t : Int) + 10000 * 0) = ((t * 10000 ^ q : Nat) : Int)
    rw [Int.natCast_mul, Int.natCast_pow]
    grind
end Go.Proofs.YtiojgdjpigcgaaaGreatDoor.R
end
