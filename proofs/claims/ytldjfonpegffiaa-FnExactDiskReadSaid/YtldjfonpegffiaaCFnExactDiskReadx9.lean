/- A part of the proof that the law FnExactDiskRead answers true for every input: contracts of functions that it reaches, or its plain law. -/
import Derived.Test.YtldjfonpegffiaaProg
import Derived.Below
import Derived.Deep.Draws
import Derived.Deep.AppendLies
import Derived.Maps.AppendAt
import Derived.OwnWalk
import Derived.Laws.BytesArg
import Derived.Laws.MakeOwn
import Derived.Laws.OwnMore
import Derived.Deep.OwnRows
import Derived.Tactics
import Derived.Lib.ConvBytes
import Derived.Laws.Slices
import Derived.WalkKit
import Derived.KernelRfl
import Derived.RowKit3
import Derived.Deep.LoopGhost
import Derived.Deep.QuietTactic
import Derived.BigQuiet
import Derived.WideLaws
import Derived.Deep.DeepCutAuto
import Derived.Deep.CutBlock
import Derived.Deep.RegionHeld3
import Derived.Laws.Rows
import Derived.Lib.AppendStr
import Derived.ArgAppend
import Derived.Laws.IdiomCopy
import Derived.OrdersHeld
import Derived.Laws.BitsLemmas
import Derived.RowKit
import Derived.Test.YtldjfonpegffiaaCFnExactDiskReadx0
import Derived.Test.YtldjfonpegffiaaCFnExactDiskReadx1
import Derived.Test.YtldjfonpegffiaaCFnExactDiskReadx2
import Derived.Test.YtldjfonpegffiaaCFnExactDiskReadx5
import Derived.Test.YtldjfonpegffiaaCFnExactDiskReadx6
import Derived.Test.YtldjfonpegffiaaCFnExactDiskReadx7
import Derived.Test.YtldjfonpegffiaaCFnExactDiskReadx8
namespace Go.Proofs.Ytldjfonpegffiaa.Q
open Go.RowKit Go.Proofs.Ytldjfonpegffiaa.Q Go.Proofs.YtldjfonpegffiaaW.PrintWords Go.Proofs.YtldjfonpegffiaaW.PrintLast Go.Proofs.YtldjfonpegffiaaW.PrintMore
set_option linter.unusedVariables false
set_option linter.unusedSimpArgs false
/-- A write that waits is ok. -/
def waitOk (w : S54) : Bool := decide (0 ≤ w.f0) && decide (w.f0 ≤ 41) && decide (w.f1.size ≤ 1200)
/-- A disk is ok. -/
def diskOk (cells : List ByteArray) (waits : List S54) (room left : Int) : Bool :=
  decide (cells.length = 42) && decide (waits.length ≤ 100) && decide (-1 ≤ room) && decide (-1 ≤ left) && cells.all (fun s => decide (s.size ≤ 1200)) && waits.all waitOk
theorem impl_in_eq (a b c : Int) : impl_in.f a b c = some (decide (b ≤ a) && decide (a ≤ c)) := by
  unfold impl_in.f
  by_cases h : a ≥ b
  · rw [if_pos h]; have h' : b ≤ a := h; simp [h']
  · rw [if_neg h]; have h' : ¬ b ≤ a := h; simp [h']
theorem spec_l1In_eq (a b c : Int) : spec_l1In.f a b c = some (decide (b ≤ a) && decide (a ≤ c)) := by
  unfold spec_l1In.f
  by_cases h : a ≥ b
  · rw [if_pos h]; have h' : b ≤ a := h; simp [h']
  · rw [if_neg h]; have h' : ¬ b ≤ a := h; simp [h']
theorem has_DiskOk_1_eq (l : List ByteArray) : has_DiskOk_1.f l = some (l.any fun s => decide (1200 < s.size)) := by
  unfold has_DiskOk_1.f
  rw [if_pos (show ∀ x ∈ l, (impl_DiskOk_1.f x).isSome = true from fun x _ => rfl)]
  congr 2
  funext s
  unfold has_DiskOk_1.p impl_DiskOk_1.f
  simp only [Option.getD_some]
  congr 1
  apply propext
  omega
theorem impl_DiskOk_2_eq (w : S54) : impl_DiskOk_2.f w.f0 w.f1 = some (!waitOk w) := by
  unfold impl_DiskOk_2.f impl_isCell.f
  rw [impl_in_eq]
  simp only [Option.bind_some]
  unfold waitOk
  by_cases h : (decide (0 ≤ w.f0) && decide (w.f0 ≤ 41)) = true
  · rw [if_pos h, h]
    congr 1
    rw [Bool.true_and, ← decide_not]
    congr 1
    apply propext
    omega
  · rw [if_neg h]
    simp only [Bool.not_eq_true] at h
    rw [h]
    rfl
theorem has_DiskOk_2_eq (l : List S54) : has_DiskOk_2.f l = some (l.any fun w => !waitOk w) := by
  unfold has_DiskOk_2.f
  rw [if_pos (fun x _ => by rw [impl_DiskOk_2_eq]; rfl)]
  congr 2
  funext s
  unfold has_DiskOk_2.p
  rw [impl_DiskOk_2_eq]
  rfl
theorem any_not_all {α : Type} (l : List α) (p q : α → Bool) (h : ∀ x, p x = !q x) : l.any p = !l.all q := by
  induction l with
  | nil => rfl
  | cons x l ih => rw [List.any_cons, List.all_cons, ih, h]; cases q x <;> simp
theorem impl_DiskOk_eq (cells : List ByteArray) (waits : List S54) (room left : Int) : impl_DiskOk.f cells waits room left = some (diskOk cells waits room left) := by
  unfold impl_DiskOk.f diskOk
  rw [has_DiskOk_1_eq, has_DiskOk_2_eq, any_not_all cells _ (fun s => decide (s.size ≤ 1200)) (fun s => by rw [← decide_not]; congr 1; apply propext; omega), any_not_all waits _ waitOk (fun w => rfl)]
  simp only [Option.bind_some]
  by_cases h1 : cells.length = 42
  · have h1' : (cells.length : Int) = 42 := by omega
    rw [if_pos h1']
    cases h2 : cells.all (fun s => decide (s.size ≤ 1200)) with
    | false => simp
    | true =>
      rw [if_neg (by simp)]
      by_cases h3 : waits.length ≤ 100
      · have h3' : (waits.length : Int) ≤ 100 := by omega
        rw [if_pos h3']
        cases h4 : waits.all waitOk with
        | false => simp
        | true =>
          rw [if_neg (by simp)]
          by_cases h5 : room ≥ -1
          · rw [if_pos h5]
            have h5' : -1 ≤ room := h5
            simp [h1, h3, h5']
          · rw [if_neg h5]
            have h5' : ¬ -1 ≤ room := h5
            simp [h5']
      · have h3' : ¬ (waits.length : Int) ≤ 100 := by omega
        rw [if_neg h3']
        simp [h3]
  · have h1' : ¬ (cells.length : Int) = 42 := by omega
    rw [if_neg h1']
    simp [h1]
theorem spec_l7Wait_eq (a : Int) (s : ByteArray) : spec_l7Wait.f a s = some (waitOk ⟨a, s⟩) := by
  unfold spec_l7Wait.f
  rw [spec_l1In_eq]
  simp only [Option.bind_some]
  unfold waitOk
  by_cases h : (decide (0 ≤ a) && decide (a ≤ 41)) = true
  · rw [if_pos h, h]
    congr 1
    rw [Bool.true_and]
    congr 1
    apply propext
    show (s.size : Int) ≤ 1200 ↔ s.size ≤ 1200
    omega
  · rw [if_neg h]
    simp only [Bool.not_eq_true] at h
    rw [h]
    rfl
theorem l7Ok_l1 (cells : List ByteArray) (waits : List S54) (room left : Int) (hw : (waits.length : Int) ≤ 4611686018427387904) : ∀ (d : Nat) (i : Int), 0 ≤ i → (waits.length : Int) - i = d → i ≤ waits.length →
    Ev (fun k => spec_l7Ok.l1 k i cells waits room left) ((waits.drop i.toNat).all waitOk) := by
  intro d
  induction d with
  | zero =>
    intro i h0 hd hi
    have e : i.toNat = waits.length := by omega
    rw [e, List.drop_length]
    exact Ev.step (f := fun _ => some true) (fun k => by rw [spec_l7Ok.l1, if_neg (by omega)]) (Ev.now _)
  | succ d ih =>
    intro i h0 hd hi
    have hlt : i < (waits.length : Int) := by omega
    have ei : wrap64 (i + 1) = i + 1 := wrap64_id (by omega) (by omega)
    have hdrop : waits.drop i.toNat = rd_T54 waits i :: waits.drop (i + 1).toNat := by
      have e : (i + 1).toNat = i.toNat + 1 := by omega
      rw [e, List.drop_eq_getElem_cons (by omega)]
      congr 1
      simp only [rd_T54]
      rw [List.getD_eq_getElem?_getD, List.getElem?_eq_getElem (by omega)]
      rfl
    rw [hdrop, List.all_cons]
    have hst : ∀ k, spec_l7Ok.l1 (k + 1) i cells waits room left = (if waitOk (rd_T54 waits i) = true then spec_l7Ok.l1 k (i + 1) cells waits room left else some false) := fun k => by
      rw [spec_l7Ok.l1, if_pos hlt, if_pos h0, spec_l7Wait_eq, ei]
      rfl
    cases h : waitOk (rd_T54 waits i) with
    | true => rw [h] at hst; exact Ev.step hst (Ev.congr (fun k => if_pos rfl) (by simpa using ih (i + 1) (by omega) (by omega) (by omega)))
    | false => rw [h] at hst; exact Ev.step hst (Ev.congr (fun k => if_neg (by simp)) (by simpa using Ev.now false))
theorem l7Ok_l0 (cells : List ByteArray) (waits : List S54) (room left : Int) (hc : (cells.length : Int) ≤ 4611686018427387904) (hw : (waits.length : Int) ≤ 4611686018427387904) : ∀ (d : Nat) (i : Int), 0 ≤ i → (cells.length : Int) - i = d → i ≤ cells.length →
    Ev (fun k => spec_l7Ok.l0 k i cells waits room left) ((cells.drop i.toNat).all (fun s => decide (s.size ≤ 1200)) && waits.all waitOk) := by
  intro d
  induction d with
  | zero =>
    intro i h0 hd hi
    have e : i.toNat = cells.length := by omega
    rw [e, List.drop_length]
    exact Ev.step (f := fun k => spec_l7Ok.l1 k 0 cells waits room left) (fun k => by rw [spec_l7Ok.l0, if_neg (by omega)]) (by simpa using l7Ok_l1 cells waits room left hw waits.length 0 (by omega) (by omega) (by omega))
  | succ d ih =>
    intro i h0 hd hi
    have hlt : i < (cells.length : Int) := by omega
    have ei : wrap64 (i + 1) = i + 1 := wrap64_id (by omega) (by omega)
    have hdrop : cells.drop i.toNat = rdOf ByteArray.empty cells i :: cells.drop (i + 1).toNat := by
      have e : (i + 1).toNat = i.toNat + 1 := by omega
      rw [e, List.drop_eq_getElem_cons (by omega)]
      congr 1
      simp only [rdOf]
      rw [List.getD_eq_getElem?_getD, List.getElem?_eq_getElem (by omega)]
      rfl
    rw [hdrop, List.all_cons]
    have hst : ∀ k, spec_l7Ok.l0 (k + 1) i cells waits room left = (if ((rdOf ByteArray.empty cells i).size : Int) > 1200 then some false else spec_l7Ok.l0 k (i + 1) cells waits room left) := fun k => by
      rw [spec_l7Ok.l0, if_pos hlt, if_pos h0, ei]
    by_cases h : ((rdOf ByteArray.empty cells i).size : Int) > 1200
    · have h' : ¬ (rdOf ByteArray.empty cells i).size ≤ 1200 := by omega
      exact Ev.step hst (Ev.congr (fun k => if_pos h) (by simpa [h'] using Ev.now false))
    · have h' : (rdOf ByteArray.empty cells i).size ≤ 1200 := by omega
      exact Ev.step hst (Ev.congr (fun k => if_neg h) (by simpa [h'] using ih (i + 1) (by omega) (by omega) (by omega)))
theorem spec_l7Ok_ev (cells : List ByteArray) (waits : List S54) (room left : Int) (hc : (cells.length : Int) ≤ 4611686018427387904) (hw : (waits.length : Int) ≤ 4611686018427387904) :
    Ev (fun k => spec_l7Ok.f k cells waits room left) (diskOk cells waits room left) := by
  have hj : ∀ b : Bool, Ev (fun k => spec_l7Ok.j0 k b cells waits room left) (!b && (cells.all (fun s => decide (s.size ≤ 1200)) && waits.all waitOk)) := fun b => by
    cases b with
    | true => exact Ev.step (f := fun _ => some false) (fun k => by rw [spec_l7Ok.j0, if_pos rfl]) (Ev.now _)
    | false => exact Ev.step (f := fun k => spec_l7Ok.l0 k 0 cells waits room left) (fun k => by rw [spec_l7Ok.j0, if_neg (by simp)]) (by simpa using l7Ok_l0 cells waits room left hc hw cells.length 0 (by omega) (by omega) (by omega))
  unfold spec_l7Ok.f diskOk
  by_cases h1 : (cells.length : Int) = 42
  · have h1' : cells.length = 42 := by omega
    refine Ev.congr (fun k => if_pos h1) ?_
    by_cases h2 : (waits.length : Int) > 100
    · have h2' : ¬ waits.length ≤ 100 := by omega
      exact Ev.congr (fun k => if_pos h2) (by simpa [h2'] using hj true)
    · have h2' : waits.length ≤ 100 := by omega
      refine Ev.congr (fun k => if_neg h2) ?_
      by_cases h3 : room < -1
      · have h3' : ¬ -1 ≤ room := by omega
        exact Ev.congr (fun k => if_pos h3) (by simpa [h3'] using hj true)
      · have h3' : -1 ≤ room := by omega
        refine Ev.congr (fun k => if_neg h3) ?_
        have h4 : (!decide (left < -1)) = decide (-1 ≤ left) := by rw [← decide_not]; congr 1; apply propext; omega
        have := hj (decide (left < -1))
        rw [h4] at this
        simpa [h1', h2', h3', Bool.and_assoc] using this
  · have h1' : ¬ cells.length = 42 := by omega
    exact Ev.congr (fun k => if_neg h1) (by simpa [h1'] using hj true)
end Go.Proofs.Ytldjfonpegffiaa.Q

namespace Go.Proofs.Ytldjfonpegffiaa.Q
open Go.Shelf
open Go.RowKit Go.Proofs.Ytldjfonpegffiaa.Q Go.Proofs.YtldjfonpegffiaaW.PrintWords Go.Proofs.YtldjfonpegffiaaW.PrintLast Go.Proofs.YtldjfonpegffiaaW.PrintMore
set_option linter.unusedVariables false
set_option linter.unusedSimpArgs false
attribute [local go_sem] Oper.semAt_some
def encW (x : Int × S54) : Array Value := #[.int .i64 x.1, .agg #[.int .i64 x.2.f0, .string x.2.f1]]
def bwF (zs : List S54) (j : Nat) : Int × S54 := ((zs.length : Int) - 1 - j, rd_T54 zs ((zs.length : Int) - 1 - j))
set_option maxRecDepth 100000 in
set_option maxHeartbeats 2000000 in
theorem backW1_in (F : Fence) (n : Nat) (h7 : F.fn 107) (hro : F.round = none) (hn : 1 ≤ n) (l Bs : Nat) (w0 : World) (A : Option Addr) (cap : Nat) (zs : List S54) (hcap : zs.length ≤ cap) (hlen : zs.length ≤ 1152921504606846976)
    (hC : Kd.C k54 w0 A zs.length zs) (J Jx : List (Int × S54) → World → Prop)
    (hY : ∀ pre x W, J pre W → pre.length < zs.length → YieldAt F (n - 1) Try.prog l (encW x) W fun e W' =>
      (e = .returned (.bool true) ∧ J (pre ++ [x]) W' ∧ KpB w0.heap.size Bs W W') ∨ (e = .returned (.bool false) ∧ Jx (pre ++ [x]) W'))
    (W : World) (hB : Below w0.heap.size w0 W) (hBs : CellsAt W Bs 28 #[.slice A zs.length cap]) (h0 : J [] W) :
    CallsIn F n Try.prog 107 #[.func (.yield l) #[] #[], .pointer (some ⟨Bs, 0, none⟩)] W fun e W' => (∃ v, e = .returned v) ∧
      ((∃ ys, ys = upto (bwF zs) zs.length ∧ J ys W') ∨ (∃ pre, (∃ k, k ≤ zs.length ∧ pre = upto (bwF zs) k) ∧ Jx pre W')) := by
  refine callsIn_of_wp Try.func107 rfl h7 ?_ hro
  simp only [Try.ntmps107, List.size_toArray, List.length_cons, List.length_nil, Nat.reduceAdd, Nat.reduceSub, Array.replicate_succ, Array.replicate_zero, List.push_toArray, List.append_toArray, List.nil_append, List.cons_append]
  have e1 : wrap64 ((zs.length : Int) - 1) = (zs.length : Int) - 1 := by unfold wrap64; omega
  have hc0 : W.cell? ⟨Bs, 0, none⟩ = some (.slice A zs.length cap) := hBs.cell 0
  gi_wp2
  gi_loopw [3] (fun i wr => ∃ k : Nat, k ≤ zs.length ∧ i = .int .i64 ((zs.length : Int) - 1 - k) ∧ J (upto (bwF zs) k) wr ∧ KpB w0.heap.size Bs W wr)
    (fun i _ => (intOf i + 1).toNat)
  case atStart => exact ⟨0, Nat.zero_le _, by simp [*], h0, KpB.refl _ _ _⟩
  case round =>
    obtain ⟨k, hk, rfl, hJs, hnx⟩ := hrel
    have hbx : CellsAt wr Bs 28 #[.slice A zs.length cap] := hnx.2.trans hBs
    have hc1 : wr.cell? ⟨Bs, 0, none⟩ = some (.slice A zs.length cap) := hbx.cell 0
    have hCr := Kd.C_below hC (hB.trans hnx.1)
    by_cases hlt : k < zs.length
    · obtain ⟨fn, tmps, assign, body, hy, hR⟩ := hY _ (bwF zs k) wr hJs (by rw [upto_length]; exact hlt)
      simp only [encW, bwF] at hy
      obtain ⟨i, hi⟩ : ∃ i : Int, (zs.length : Int) - 1 - k = i := ⟨_, rfl⟩
      rw [hi] at hy ⊢
      have p0 : 0 ≤ i := by omega
      have q0 : i < (zs.length : Int) := by omega
      obtain ⟨ad, eA, hx0, hx1⟩ := at_T54 hCr i p0 q0
      subst eA
      have p0' := eq_true p0
      have q0' := eq_true q0
      have d0 : decide (i < 0) = false := decide_eq_false (by omega)
      have d1 : decide (0 ≤ i) = true := decide_eq_true p0
      gi_wp2
      refine hR.mono ?_
      rintro e W3 (⟨rfl, hJ3, hk3⟩ | ⟨rfl, hJx3⟩)
      · have e2 : wrap64 (i - 1) = i - 1 := by unfold wrap64; omega
        gi_wp2
        go_roundw
        case rel => exact ⟨k + 1, by omega, by simp [*]; omega, by rw [upto_succ]; exact hJ3, hnx.trans hk3⟩
        case measure => simp [intOf, e2]; omega
      · gi_wp2
        refine bodyPost_ret (results_none rfl _ _ _) rfl ?_
        exact ⟨⟨_, rfl⟩, .inr ⟨_, ⟨k + 1, by omega, (upto_succ _ _).symm⟩, hJx3⟩⟩
    · obtain rfl : k = zs.length := by omega
      have d0 : decide (0 ≤ (zs.length : Int) - 1 - zs.length) = false := decide_eq_false (by omega)
      gi_wp2
      go_end0
      exact ⟨⟨_, rfl⟩, .inl ⟨_, rfl, hJs⟩⟩
set_option maxHeartbeats 1000000 in
theorem backW_in (F : Fence) (n : Nat) (h5 : F.fn 75) (hro : F.round = none) (a : Option Addr) (len cap : Nat) (w : World) :
    CallsIn F n Try.prog 75 #[.slice a len cap] w fun e w' => e = .returned (.func (.func 107) #[] #[.pointer (some ⟨w.heap.size, 0, none⟩)]) ∧ w' = w.alloc (.cells #[.slice a len cap] 28) := by
  refine callsIn_of_wp Try.func75 rfl h5 ?_ hro
  simp only [Try.ntmps75, List.size_toArray, List.length_cons, List.length_nil, Nat.reduceAdd, Nat.reduceSub, Array.replicate_succ, Array.replicate_zero, List.push_toArray, List.append_toArray, List.nil_append, List.cons_append]
  gi_wp2
  go_ret
  exact ⟨rfl, rfl⟩
theorem backW_stops (F : Fence) (n : Nat) (h7 : F.fn 107) (hro : F.round = none) (hn : 1 ≤ n) (Bs : Nat) (w0 : World) (A : Option Addr) (cap : Nat) (zs : List S54) (hcap : zs.length ≤ cap) (hlen : zs.length ≤ 1152921504606846976)
    (hC : Kd.C k54 w0 A zs.length zs) (w : World) (hB : Below w0.heap.size w0 w) (hBs : CellsAt w Bs 28 #[.slice A zs.length cap]) :
    SeqStopsK F n Try.prog 107 #[.pointer (some ⟨Bs, 0, none⟩)] encW (KpB w0.heap.size Bs) (fun ys => ys = upto (bwF zs) zs.length)
      (fun pre => ∃ k, k ≤ zs.length ∧ pre = upto (bwF zs) k) zs.length w := fun l J Jx W hW _ _ hY h0 =>
  backW1_in F n h7 hro hn l Bs w0 A cap zs hcap hlen hC J Jx hY W (hB.trans (hW.mono hB.size)) (hBs.below hW hBs.lt) h0
/-- What a disk answers for a cell: what was written last. -/
def readF (ws : List S54) (cells : List ByteArray) (at_ : Int) : ByteArray :=
  match ws.reverse.find? (fun w => w.f0 == at_) with
  | some w => w.f1
  | none => rdOf ByteArray.empty cells at_
theorem bwF_snd (zs : List S54) (k : Nat) (hk : k ≤ zs.length) : (upto (bwF zs) k).map Prod.snd = zs.reverse.take k := by
  apply List.ext_getElem
  · simp [upto]; omega
  · intro i h1 h2
    have hi : i < zs.length := by simp [upto] at h1; omega
    simp only [upto, List.map_map, List.getElem_map, List.getElem_range, Function.comp, bwF, List.getElem_take, List.getElem_reverse]
    unfold rd_T54
    have e : ((zs.length : Int) - 1 - i).toNat = zs.length - 1 - i := by omega
    rw [e, List.getD_eq_getElem?_getD, List.getElem?_eq_getElem (by omega)]
    rfl
theorem readF_none (ws : List S54) (cells : List ByteArray) (at_ : Int) (h : ∀ p ∈ upto (bwF ws) ws.length, p.2.f0 ≠ at_) : readF ws cells at_ = rdOf ByteArray.empty cells at_ := by
  have e := bwF_snd ws ws.length (Nat.le_refl _)
  rw [List.take_of_length_le (by simp)] at e
  unfold readF
  have : ws.reverse.find? (fun w => w.f0 == at_) = none := by
    rw [List.find?_eq_none]
    intro x hx
    rw [← e] at hx
    obtain ⟨p, hp, rfl⟩ := List.mem_map.1 hx
    simpa using h p hp
  rw [this]
theorem readF_some (ws : List S54) (cells : List ByteArray) (at_ : Int) (k : Nat) (hk : k ≤ ws.length) (ini : List (Int × S54)) (last : Int × S54)
    (e : upto (bwF ws) k = ini ++ [last]) (h1 : ∀ p ∈ ini, p.2.f0 ≠ at_) (h2 : last.2.f0 = at_) : readF ws cells at_ = last.2.f1 := by
  have e2 := bwF_snd ws k hk
  rw [e, List.map_append] at e2
  unfold readF
  have : ws.reverse.find? (fun w => w.f0 == at_) = some last.2 := by
    rw [← List.take_append_drop k ws.reverse, ← e2, List.append_assoc, List.find?_append, List.find?_eq_none.2 (fun x hx => ?_)]
    · simp [h2]
    · obtain ⟨p, hp, rfl⟩ := List.mem_map.1 hx
      simpa using h1 p hp
  rw [this]
def impl_DiskRead.f (l0 : List ByteArray) (l1 : List S54) (a2 a3 a1 : Int) : Option ByteArray :=
  if diskOk l0 l1 a2 a3 = true ∧ 0 ≤ a1 ∧ a1 ≤ 41 then some (readF l1 l0 a1) else some ByteArray.empty
theorem isCell_eq (a : Int) : impl_isCell.f a = some (decide (0 ≤ a) && decide (a ≤ 41)) := by
  unfold impl_isCell.f
  rw [impl_in_eq]
  rfl
set_option maxRecDepth 100000 in
set_option maxHeartbeats 4000000 in
theorem impl_DiskRead.calls (A0 : Option Addr) (c0 : Nat) (l0 : List ByteArray) (A1 : Option Addr) (c1 : Nat) (l1 : List S54) (a2 a3 a1 : Int) (r : ByteArray) (w : World) (hr0 : Kd.C Kd.string w A0 l0.length l0) (hc0 : l0.length ≤ c0) (hr1 : Kd.C k54 w A1 l1.length l1) (hc1 : l1.length ≤ c1) (h : impl_DiskRead.f l0 l1 a2 a3 a1 = some r) :
    Calls Try.prog 33 #[.agg #[.slice A0 l0.length c0, .slice A1 l1.length c1, .int .i64 a2, .int .i64 a3], .int .i64 a1] w fun e w' => e = .returned (.string r) ∧ Below w.heap.size w w' := by
  have hu30 := Try.underlying30
  have hu54 := Try.underlying54
  have e1 := Aside0.mk (impl_DiskOk_eq l0 l1 a2 a3)
  have e2 := Aside0.mk (isCell_eq a1)
  have HR0 := Aside0.mk hr0
  have HR1 := Aside0.mk hr1
  have HC0 := Aside0.mk hc0
  have HC1 := Aside0.mk hc1
  clear hr0 hr1 hc0 hc1
  have HRES : Aside0 ((if diskOk l0 l1 a2 a3 = true ∧ (decide (0 ≤ a1) && decide (a1 ≤ 41)) = true then readF l1 l0 a1 else ByteArray.empty) = r) := by
    unfold impl_DiskRead.f at h
    simp only [Bool.and_eq_true, decide_eq_true_eq]
    split at h
    · rename_i hh; rw [if_pos hh]; exact ⟨Option.some.inj h⟩
    · rename_i hh; rw [if_neg hh]; exact ⟨Option.some.inj h⟩
  clear h
  obtain ⟨w3, hw3⟩ : ∃ w3, ((w.alloc (.cells #[.slice A0 l0.length c0, .slice A1 l1.length c1, .int .i64 a2, .int .i64 a3] 30)).alloc (.cells #[.int .i64 a1] 3)).alloc (.cells #[.string ⟨#[]⟩] 9) = w3 := ⟨_, rfl⟩
  have b0 : CellsAt w3 w.heap.size 30 #[.slice A0 l0.length c0, .slice A1 l1.length c1, .int .i64 a2, .int .i64 a3] := by rw [← hw3]; exact ((CellsAt.new w _ _).alloc _).alloc _
  have b1 : CellsAt w3 (w.heap.size + 1) 3 #[.int .i64 a1] := by rw [← hw3]; have := (CellsAt.new (w.alloc (.cells #[.slice A0 l0.length c0, .slice A1 l1.length c1, .int .i64 a2, .int .i64 a3] 30)) 3 #[.int .i64 a1]).alloc (.cells #[.string ⟨#[]⟩] 9); rwa [World.size_alloc] at this
  have b2 : CellsAt w3 (w.heap.size + 1 + 1) 9 #[.string ⟨#[]⟩] := by rw [← hw3]; have := CellsAt.new ((w.alloc (.cells #[.slice A0 l0.length c0, .slice A1 l1.length c1, .int .i64 a2, .int .i64 a3] 30)).alloc (.cells #[.int .i64 a1] 3)) 9 #[.string ⟨#[]⟩]; rwa [World.size_alloc, World.size_alloc] at this
  have hsz : w3.heap.size = w.heap.size + 1 + 1 + 1 := by rw [← hw3]; simp
  have hB3 : Below w.heap.size w w3 := by rw [← hw3]; exact (((Below.refl _ w).alloc (Nat.le_refl _) _).alloc (by simp) _).alloc (by simp; omega) _
  have B0 := Aside0.mk b0
  have B1 := Aside0.mk b1
  have B2 := Aside0.mk b2
  have HS := Aside0.mk hsz
  have HB := Aside0.mk hB3
  have hz0 : w3.cell? ⟨w.heap.size, 0, none⟩ = some (.slice A0 l0.length c0) := b0.cell 0
  have hz1 : w3.cell? ⟨w.heap.size, 1, none⟩ = some (.slice A1 l1.length c1) := b0.cell 1
  have hz2 : w3.cell? ⟨w.heap.size, 2, none⟩ = some (.int .i64 a2) := b0.cell 2
  have hz3 : w3.cell? ⟨w.heap.size, 3, none⟩ = some (.int .i64 a3) := b0.cell 3
  clear b0 b1 b2 hsz hB3
  cases hd : diskOk l0 l1 a2 a3 with
  | false =>
    rw [hd] at e1 HRES
    have hr := HRES.out
    rw [if_neg (by simp)] at hr
    subst hr
    clear e2 HRES
    refine (callsIn_wide (n := 9)).1 ?_
    refine callsIn_of_wp_marks Try.func33 rfl trivial ?_ rfl
    simp only [Try.ntmps33, List.size_toArray, List.length_cons, List.length_nil, Nat.reduceAdd, Nat.reduceSub, Array.replicate_succ, Array.replicate_zero, List.push_toArray, List.append_toArray, List.nil_append, List.cons_append]
    gi_wp2_with (first | (refine ⟨trivial, ?_⟩; gi_at_call 31; refine (callsIn_wide.2 (impl_DiskOk.calls A0 c0 l0 A1 c1 l1 a2 a3 false _ (Kd.C_below HR0.out HB.out) HC0.out (Kd.C_below HR1.out HB.out) HC1.out e1.out)).mono ?_; rintro e w4 ⟨rfl, hb⟩; have b4 := B2.out.below hb (by have := HS.out; omega); have c4 : w4.cell? ⟨w.heap.size + 1 + 1, 0, none⟩ = some (.string ⟨#[]⟩) := b4.cell 0; have f4 := b4.frozen 0; have HB4 := Aside0.mk (HB.out.trans (hb.mono (by have := HS.out; omega))); clear hb b4) | (refine ⟨trivial, ?_⟩))
    have hc5 := World.cell?_setCell_same' w4 ⟨w.heap.size + 1 + 1, 0, none⟩ (.string ⟨#[]⟩) (by rw [c4]; rfl)
    refine ⟨.string ByteArray.empty, ?_, rfl, HB4.out.setCell (p := ⟨w.heap.size + 1 + 1, 0, none⟩) (by simp; omega) _⟩
    simp [results, Try.f33, go_sem, hc5]
    rfl
  | true =>
    rw [hd] at e1 HRES
    cases hi : (decide (0 ≤ a1) && decide (a1 ≤ 41)) with
    | false =>
      rw [hi] at e2 HRES
      have hr := HRES.out
      rw [if_neg (by simp)] at hr
      subst hr
      clear HRES
      refine (callsIn_wide (n := 9)).1 ?_
      refine callsIn_of_wp_marks Try.func33 rfl trivial ?_ rfl
      simp only [Try.ntmps33, List.size_toArray, List.length_cons, List.length_nil, Nat.reduceAdd, Nat.reduceSub, Array.replicate_succ, Array.replicate_zero, List.push_toArray, List.append_toArray, List.nil_append, List.cons_append]
      gi_wp2_with (first | (refine ⟨trivial, ?_⟩; gi_at_call 31; refine (callsIn_wide.2 (impl_DiskOk.calls A0 c0 l0 A1 c1 l1 a2 a3 true _ (Kd.C_below HR0.out HB.out) HC0.out (Kd.C_below HR1.out HB.out) HC1.out e1.out)).mono ?_; rintro e w4 ⟨rfl, hb⟩; have b1 := B1.out.below hb (by have := HS.out; omega); have b2 := B2.out.below hb (by have := HS.out; omega); have b0 := B0.out.below hb (by have := HS.out; omega); have d4 : w4.cell? ⟨w.heap.size + 1, 0, none⟩ = some (.int .i64 a1) := b1.cell 0; have hs4 := hb.size; have HB4 := HB.out.trans (hb.mono (by have := HS.out; omega)); clear hb HB) | (refine ⟨trivial, ?_⟩; gi_at_call 72; refine (callsIn_wide.2 (impl_isCell.calls a1 false _ e2.out)).mono ?_; rintro e w5 ⟨rfl, ⟨m, hm⟩⟩; have B15 := Aside0.mk (b1.drewN m); have B25 := Aside0.mk (b2.drewN m); have B05 := Aside0.mk (b0.drewN m); have HB5 : Aside0 (Below w.heap.size w (w4.drewN m)) := ⟨HB4.trans (Below.drewN_ w4 m)⟩; have hs5 : w3.heap.size ≤ (w4.drewN m).heap.size := hs4; rw [← hm] at B15 B25 B05 HB5 hs5; clear hm d4 hs4 HB4 b0 b1 b2; have b25 := B25.out; have c5 : w5.cell? ⟨w.heap.size + 1 + 1, 0, none⟩ = some (.string ⟨#[]⟩) := b25.cell 0; have f5 := b25.frozen 0; clear b25))
      have hc5 := World.cell?_setCell_same' w5 ⟨w.heap.size + 1 + 1, 0, none⟩ (.string ⟨#[]⟩) (by rw [c5]; rfl)
      refine ⟨.string ByteArray.empty, ?_, rfl, HB5.out.setCell (p := ⟨w.heap.size + 1 + 1, 0, none⟩) (by simp; omega) _⟩
      simp [results, Try.f33, go_sem, hc5]
      rfl
    | true =>
      rw [hi] at e2 HRES
      have hr := HRES.out
      rw [if_pos ⟨rfl, rfl⟩] at hr
      subst hr
      clear HRES
      refine (callsIn_wide (n := 9)).1 ?_
      refine callsIn_of_wp_marks Try.func33 rfl trivial ?_ rfl
      simp only [Try.ntmps33, List.size_toArray, List.length_cons, List.length_nil, Nat.reduceAdd, Nat.reduceSub, Array.replicate_succ, Array.replicate_zero, List.push_toArray, List.append_toArray, List.nil_append, List.cons_append]
      gi_wp2_with (first | (refine ⟨trivial, ?_⟩; gi_at_call 31; refine (callsIn_wide.2 (impl_DiskOk.calls A0 c0 l0 A1 c1 l1 a2 a3 true _ (Kd.C_below HR0.out HB.out) HC0.out (Kd.C_below HR1.out HB.out) HC1.out e1.out)).mono ?_; rintro e w4 ⟨rfl, hb⟩; have b1 := B1.out.below hb (by have := HS.out; omega); have b2 := B2.out.below hb (by have := HS.out; omega); have b0 := B0.out.below hb (by have := HS.out; omega); have d4 : w4.cell? ⟨w.heap.size + 1, 0, none⟩ = some (.int .i64 a1) := b1.cell 0; have hs4 := hb.size; have HB4 := HB.out.trans (hb.mono (by have := HS.out; omega)); clear hb HB) | (refine ⟨trivial, ?_⟩; gi_at_call 72; refine (callsIn_wide.2 (impl_isCell.calls a1 true _ e2.out)).mono ?_; rintro e w5 ⟨rfl, ⟨m, hm⟩⟩; have B15 := Aside0.mk (b1.drewN m); have B25 := Aside0.mk (b2.drewN m); have B05 := Aside0.mk (b0.drewN m); have HB5 : Aside0 (Below w.heap.size w (w4.drewN m)) := ⟨HB4.trans (Below.drewN_ w4 m)⟩; have hs5 : w3.heap.size ≤ (w4.drewN m).heap.size := hs4; rw [← hm] at B15 B25 B05 HB5 hs5; clear hm d4 hs4 HB4 b0 b1 b2; have b05 := B05.out; have z0 : w5.cell? ⟨w.heap.size, 0, none⟩ = some (.slice A0 l0.length c0) := b05.cell 0; have z1 : w5.cell? ⟨w.heap.size, 1, none⟩ = some (.slice A1 l1.length c1) := b05.cell 1; have z2 : w5.cell? ⟨w.heap.size, 2, none⟩ = some (.int .i64 a2) := b05.cell 2; have z3 : w5.cell? ⟨w.heap.size, 3, none⟩ = some (.int .i64 a3) := b05.cell 3; clear b05) | (refine ⟨trivial, ?_⟩; gi_at_call 75; refine (backW_in Fence.wide _ trivial rfl _ _ _ _).mono ?_; rintro e w6 ⟨rfl, hw6⟩))
      have hlen : l1.length ≤ 100 := by
        unfold diskOk at hd
        simp only [Bool.and_eq_true, decide_eq_true_eq] at hd
        exact hd.1.1.1.1.2
      have hsz := HS.out
      have hB5 := HB5.out
      obtain ⟨W0, hW0⟩ : ∃ W0, w5.alloc (.cells #[.slice A1 l1.length c1] 28) = W0 := ⟨_, rfl⟩
      have hBW0 : Below w.heap.size w W0 := by rw [← hW0]; exact hB5.alloc (by omega) _
      have hs0 : W0.heap.size = w5.heap.size + 1 := by rw [← hW0]; simp
      have s0 : CellsAt W0 w5.heap.size 28 #[.slice A1 l1.length c1] := by rw [← hW0]; exact CellsAt.new _ _ _
      have s1 : CellsAt W0 w.heap.size 30 #[.slice A0 l0.length c0, .slice A1 l1.length c1, .int .i64 a2, .int .i64 a3] := by rw [← hW0]; exact B05.out.alloc _
      have s2 : CellsAt W0 (w.heap.size + 1) 3 #[.int .i64 a1] := by rw [← hW0]; exact B15.out.alloc _
      have s3 : CellsAt W0 (w.heap.size + 1 + 1) 9 #[.string ⟨#[]⟩] := by rw [← hW0]; exact B25.out.alloc _
      rw [hW0]
      clear hW0 hw6 z0 z1 z2 z3 B05 B15 B25 HB5 hB5
      refine wpIn_rangeFunc_ownH rfl (by decide) (gf := 107) (lb := #[.pointer (some ⟨w5.heap.size, 0, none⟩)]) rfl trivial (enters_of Try.func107 (by kernel_rfl) rfl)
        (backW_stops Fence.wide _ trivial rfl (by decide) w5.heap.size w A1 c1 l1 HC1.out (by omega) HR1.out W0 hBW0 s0) KpB.trans (kpB_b (by omega) (by omega)) (Below.refl _ _) (fun _ => rfl)
        (fun pre W => (((CellsAt W w.heap.size 30 #[.slice A0 l0.length c0, .slice A1 l1.length c1, .int .i64 a2, .int .i64 a3] ∧ CellsAt W (w.heap.size + 1) 3 #[.int .i64 a1]) ∧ (CellsAt W (w.heap.size + 1 + 1) 9 #[.string ⟨#[]⟩] ∧ CellsAt W w5.heap.size 28 #[.slice A1 l1.length c1])) ∧ ∀ p ∈ pre, p.2.f0 ≠ a1) ∧ Below w.heap.size w W)
        (fun c pre W => (c = .ret ∧ ∃ ini last, pre = ini ++ [last] ∧ (∀ p ∈ ini, p.2.f0 ≠ a1) ∧ last.2.f0 = a1 ∧ CellsAt W (w.heap.size + 1 + 1) 9 #[.string last.2.f1]) ∧ Below w.heap.size w W)
        (OwnFrom.and (OwnFrom.and (OwnFrom.and (OwnFrom.and (Own.from (cellsAt_own _ _ _) _) (Own.from (cellsAt_own _ _ _) _)) (OwnFrom.and (Own.from (cellsAt_own _ _ _) _) (Own.from (cellsAt_own _ _ _) _))) (fun _ _ _ _ hs _ _ => hs)) (ownFrom_below (Nat.le_refl _) (by omega)))
        (fun c => OwnFrom.and (fun s X Y row hs hg hr => by obtain ⟨hc, ini, last, q1, q2, q3, q4⟩ := hs; exact ⟨hc, ini, last, q1, q2, q3, cellsAt_own _ _ (fun (_ : Unit) => #[Value.string last.2.f1]) () X Y row q4 hg (fun r e => (hr r e).2)⟩) (ownFrom_below (Nat.le_refl _) (by omega)))
        ⟨⟨⟨⟨s1, s2⟩, s3, s0⟩, by simp⟩, hBW0⟩
        (fun x a' W => ∃ Bx, w.heap.size + 1 + 1 < Bx ∧ CellsAt W Bx 54 #[.int .i64 x.2.f0, .string x.2.f1] ∧ a' = { tmps := #[.agg #[.slice A0 l0.length c0, .slice A1 l1.length c1, .int .i64 a2, .int .i64 a3], .int .i64 a1, .pointer (some ⟨w.heap.size, 0, none⟩), .pointer (some ⟨w.heap.size + 1, 0, none⟩), .pointer (some ⟨w.heap.size + 1 + 1, 0, none⟩), undef, .pointer (some ⟨Bx, 0, none⟩), .agg #[.slice A0 l0.length c0, .slice A1 l1.length c1, .int .i64 a2, .int .i64 a3], .bool true, .bool false, .bool false, .int .i64 a1, .bool true, .bool false, .bool false, .pointer (some ⟨w.heap.size, 1, none⟩), .slice A1 l1.length c1, .func (.func 107) #[] #[.pointer (some ⟨w5.heap.size, 0, none⟩)], .int .i64 x.1, .agg #[.int .i64 x.2.f0, .string x.2.f1], undef, undef, undef, undef, undef, undef, undef, undef, undef, undef, undef], defers := [] })
        (fun x a' _ X Y row hs hg hr => by obtain ⟨Bx, q1, q2, q3⟩ := hs; exact ⟨Bx, q1, cellsAt_own _ _ (fun (_ : Unit) => #[Value.int .i64 x.2.f0, Value.string x.2.f1]) () X Y row q2 hg (fun r e => (hr r e).2), q3⟩)
        ?assign ?body ?done ?stop
      case assign =>
        rintro l pre x W K ⟨⟨⟨⟨t1, t2⟩, t3, t0⟩, tp⟩, tB⟩ hK
        simp only [encW]
        have hl3 := t3.lt
        have hl0 := t0.lt
        gi_wp2
        exact hK _ _ ((KeepsOthers.alloc _ _).from _) ⟨(Below.refl _ W).alloc tB.size _, Below.heap_alloc _ _ _ hl0⟩ ⟨⟨⟨⟨t1.alloc _, t2.alloc _⟩, t3.alloc _, t0.alloc _⟩, tp⟩, tB.alloc tB.size _⟩ ⟨W.heap.size, hl3, CellsAt.new W _ _, rfl⟩
      case body =>
        rintro l pre x a' W hl ⟨r, hr⟩ ⟨⟨⟨⟨t1, t2⟩, t3, t0⟩, tp⟩, tB⟩ ⟨Bx, hBx, tx, rfl⟩ hlt
        have u0 : W.cell? ⟨Bx, 0, none⟩ = some (.int .i64 x.2.f0) := tx.cell 0
        have u1 : W.cell? ⟨Bx, 1, none⟩ = some (.string x.2.f1) := tx.cell 1
        have u2 : W.cell? ⟨w.heap.size + 1, 0, none⟩ = some (.int .i64 a1) := t2.cell 0
        have u3 : W.cell? ⟨w.heap.size + 1 + 1, 0, none⟩ = some (.string ⟨#[]⟩) := t3.cell 0
        have g3 := t3.frozen 0
        by_cases hx : x.2.f0 = a1
        · have hx1 : (x.2.f0 == a1) = true := beq_iff_eq.mpr hx
          gi_wp2
          exact ⟨(KeepsOthers.setCell _ _ _).from _, ⟨rfl, pre, x, rfl, tp, hx, Boxed.set _ t3⟩, tB.setCell (p := ⟨w.heap.size + 1 + 1, 0, none⟩) (by simp; omega) _⟩
        · have hx1 : (x.2.f0 == a1) = false := beq_eq_false_iff_ne.mpr hx
          gi_wp2
          exact ⟨KeepsFrom.refl _ _, KpB.refl _ _ _, ⟨⟨⟨t1, t2⟩, t3, t0⟩, fun p hp => (List.mem_append.1 hp).elim (tp p) (fun e => by simp at e; subst e; exact hx)⟩, tB⟩
      case done =>
        rintro D ys W hD rfl ⟨⟨⟨⟨t1, t2⟩, t3, t0⟩, tp⟩, tB⟩ hK
        have u2 : W.cell? ⟨w.heap.size + 1, 0, none⟩ = some (.int .i64 a1) := t2.cell 0
        have u3 : W.cell? ⟨w.heap.size + 1 + 1, 0, none⟩ = some (.string ⟨#[]⟩) := t3.cell 0
        have g3 := t3.frozen 0
        have v0 : W.cell? ⟨w.heap.size, 0, none⟩ = some (.slice A0 l0.length c0) := t1.cell 0
        have v1 : W.cell? ⟨w.heap.size, 1, none⟩ = some (.slice A1 l1.length c1) := t1.cell 1
        have v2 : W.cell? ⟨w.heap.size, 2, none⟩ = some (.int .i64 a2) := t1.cell 2
        have v3 : W.cell? ⟨w.heap.size, 3, none⟩ = some (.int .i64 a3) := t1.cell 3
        have hlc : l0.length = 42 := by
          unfold diskOk at hd
          simp only [Bool.and_eq_true, decide_eq_true_eq] at hd
          exact hd.1.1.1.1.1
        have hin : 0 ≤ a1 ∧ a1 ≤ 41 := by simpa using hi
        obtain ⟨ad, eA, hx0⟩ := Kd.at_string (Kd.C_below HR0.out tB) a1 hin.1 (by omega)
        subst eA
        have p0 := eq_true hin.1
        have q0 : (a1 < (l0.length : Int)) = True := eq_true (by omega)
        gi_wp2
        have hK' := (KeepsOthers.setCell W ⟨w.heap.size + 1 + 1, 0, none⟩ (.string (rdOf ByteArray.empty l0 a1))).same D _ hK rfl
        refine ⟨by simp, .inl ⟨_, _, rfl, run_takeDeferred hK', ?_⟩⟩
        have hc5 := cell_kept (World.cell?_setCell_same' W ⟨w.heap.size + 1 + 1, 0, none⟩ (.string (rdOf ByteArray.empty l0 a1)) (by rw [u3]; rfl)) (grownBy_putObj' _ D (.deferred none)) (fun r e => by cases e; exact ⟨_, hK', rfl⟩)
        refine ⟨.string (rdOf ByteArray.empty l0 a1), ?_, by rw [readF_none l1 l0 a1 tp], (tB.setCell (p := ⟨w.heap.size + 1 + 1, 0, none⟩) (by simp; omega) _).trans (belowK_b (w := w) (Nat.le_refl _) _ D _ _ (by omega) hK' rfl rfl)⟩
        simp [results, Try.f33, go_sem, hc5]
      case stop =>
        rintro D c pre W hD ⟨k, hk, rfl⟩ ⟨⟨rfl, ini, last, q1, q2, q3, q4⟩, tB⟩ hK
        gi_wp2
        refine ⟨by simp, .inl ⟨_, _, rfl, run_takeDeferred hK, ?_⟩⟩
        have q5 : W.cell? ⟨w.heap.size + 1 + 1, 0, none⟩ = some (.string last.2.f1) := q4.cell 0
        have hc5 := cell_kept q5 (grownBy_putObj' _ D (.deferred none)) (fun r e => by cases e; exact ⟨_, hK, rfl⟩)
        refine ⟨.string last.2.f1, ?_, by rw [readF_some l1 l0 a1 k hk ini last q1 q2 q3], tB.trans (belowK_b (w := w) (Nat.le_refl _) W D _ _ (by omega) hK rfl rfl)⟩
        simp [results, Try.f33, go_sem, hc5]
end Go.Proofs.Ytldjfonpegffiaa.Q
