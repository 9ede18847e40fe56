/- A part of the proof that the law FnExactDiskCrash answers true for every input: contracts of functions that it reaches, or its plain law. -/
import Derived.Test.YtldjfonpegffiaaProg
import Derived.Below
import Derived.Deep.Draws
import Derived.Deep.AppendLies
import Derived.Maps.AppendAt
import Derived.OwnWalk
import Derived.Laws.BytesArg
import Derived.Laws.MakeOwn
import Derived.Laws.OwnMore
import Derived.Deep.OwnRows
import Derived.Tactics
import Derived.Lib.ConvBytes
import Derived.Laws.Slices
import Derived.WalkKit
import Derived.KernelRfl
import Derived.RowKit3
import Derived.Deep.LoopGhost
import Derived.Deep.QuietTactic
import Derived.BigQuiet
import Derived.WideLaws
import Derived.Deep.DeepCutAuto
import Derived.Deep.CutBlock
import Derived.Deep.RegionHeld3
import Derived.Laws.Rows
import Derived.Lib.AppendStr
import Derived.ArgAppend
import Derived.Laws.IdiomCopy
import Derived.OrdersHeld
import Derived.Laws.BitsLemmas
import Derived.RowKit
import Derived.Test.YtldjfonpegffiaaRows
import Derived.ProofKit
import Derived.OpenShut
import Derived.ShutString
import Derived.ChangeOld
import Derived.SizedLaws
import Derived.Test.YtldjfonpegffiaaCFnExactDiskCrashx0
import Derived.Test.YtldjfonpegffiaaCFnExactDiskCrashx1
import Derived.Test.YtldjfonpegffiaaCFnExactDiskCrashx2
import Derived.Test.YtldjfonpegffiaaCFnExactDiskCrashx3
import Derived.Test.YtldjfonpegffiaaCFnExactDiskCrashx9
import Derived.Test.YtldjfonpegffiaaCFnExactDiskCrashx10
import Derived.Test.YtldjfonpegffiaaCFnExactDiskCrashx12
import Derived.Test.YtldjfonpegffiaaCFnExactDiskCrashx13
import Derived.Test.YtldjfonpegffiaaCFnExactDiskCrashx14
import Derived.Test.YtldjfonpegffiaaCFnExactDiskCrashx15
namespace Go.Proofs.Ytldjfonpegffiaa.Q
open Go.RowKit Go.Proofs.Ytldjfonpegffiaa.Q Go.Proofs.YtldjfonpegffiaaW.PrintWords Go.Proofs.YtldjfonpegffiaaW.PrintLast Go.Proofs.YtldjfonpegffiaaW.PrintMore
set_option linter.unusedVariables false
set_option linter.unusedSimpArgs false
def bitOn (mask i : Int) : Bool := (mask / 2 ^ (Int.tmod i 60).toNat) % 2 == 1
theorem wraps_i64b (n : Int) (h₀ : 0 ≤ n) (h₁ : n < 2 ^ 63) : IntKind.i64.wrap n = n := by rw [IntKind.wrap_i64]; omega
theorem and1 (x : Int) (h0 : 0 ≤ x) (h1 : x < 2 ^ 63) : Go.bits .and .i64 x 1 = x % 2 := Go.bits_mask .i64 63 (by decide) wraps_i64b 1 (by decide) x h0 h1
theorem div_pow_range (m : Int) (j : Nat) (h0 : 0 ≤ m) (h1 : m < 2 ^ 63) : 0 ≤ m / 2 ^ j ∧ m / 2 ^ j < 2 ^ 63 := by
  have hp0 : (0 : Int) < 2 ^ j := Int.pow_pos (by decide)
  have hp : (1 : Int) ≤ 2 ^ j := by omega
  exact ⟨Int.ediv_nonneg h0 (by omega), Int.lt_of_le_of_lt (Int.ediv_le_self _ h0) h1⟩
theorem impl_bit (mask i : Int) (h0 : 0 ≤ mask) (h1 : mask < 2 ^ 63) (hi : 0 ≤ i) : (Go.bits .and .i64 (shr .i64 mask (Int.tmod i 60)) 1 = 1) ↔ bitOn mask i = true := by
  have ht := tmod_range hi (by omega : (1 : Int) ≤ 60)
  have e : shr .i64 mask (Int.tmod i 60) = mask / 2 ^ (Int.tmod i 60).toNat := by
    unfold shr
    have hm : min (Int.tmod i 60).toNat IntKind.i64.bits = (Int.tmod i 60).toNat := by
      apply Nat.min_eq_left
      show _ ≤ 64
      omega
    rw [hm]
  have hr := div_pow_range mask (Int.tmod i 60).toNat h0 h1
  rw [e, and1 _ hr.1 hr.2]
  unfold bitOn
  rw [beq_iff_eq]
theorem l7Bit_loop : ∀ (d : Nat) (x0 x5 : Int), 0 ≤ x0 → x0 < 2 ^ 63 → x5 = d → x5 ≤ 1000 → Ev (fun k => spec_l7Bit.l0 k x0 x5) ((x0 / 2 ^ d) % 2 == 1) := by
  intro d
  induction d with
  | zero =>
    intro x0 x5 h0 h1 hd hk
    refine Ev.step (f := fun _ => some ((x0 / 2 ^ 0) % 2 == 1)) (fun k => ?_) (Ev.now _)
    simp only [spec_l7Bit.l0]
    rw [if_neg (by omega), Int.tmod_eq_emod_of_nonneg h0, Int.pow_zero, Int.ediv_one]
  | succ d ih =>
    intro x0 x5 h0 h1 hd hk
    have e1 : Int.tdiv x0 2 = x0 / 2 := Int.tdiv_eq_ediv_of_nonneg h0
    have e2 : wrap64 (Int.tdiv x0 2) = x0 / 2 := by rw [e1]; exact wrap64_id (by omega) (by omega)
    have e3 : wrap64 (x5 - 1) = x5 - 1 := wrap64_id (by omega) (by omega)
    have e4 : x0 / 2 ^ (d + 1) = x0 / 2 / 2 ^ d := by rw [Int.pow_succ, Int.mul_comm, Int.ediv_ediv_of_nonneg (by omega)]
    rw [e4]
    exact Ev.step (fun k => by rw [spec_l7Bit.l0, if_pos (by omega), e2, e3]) (ih (x0 / 2) (x5 - 1) (by omega) (by omega) (by omega) (by omega))
theorem l7Bit_ev (mask i : Int) (h0 : 0 ≤ mask) (h1 : mask < 2 ^ 63) (hi : 0 ≤ i) : Ev (fun k => spec_l7Bit.f k mask i) (bitOn mask i) := by
  have ht := tmod_range hi (by omega : (1 : Int) ≤ 60)
  exact l7Bit_loop (Int.tmod i 60).toNat mask (Int.tmod i 60) h0 h1 (by omega) (by omega)
/-- A torn write. -/
def tornF (text old : ByteArray) (b : Int) : ByteArray := if tornAt text b ≥ (old.size : Int) then text.extract 0 (tornAt text b).toNat else text.extract 0 (tornAt text b).toNat ++ old.extract (tornAt text b).toNat old.size
theorem tornF_size (text old : ByteArray) (b : Int) (h1 : text.size ≤ 1200) (h2 : old.size ≤ 1200) : (tornF text old b).size ≤ 1200 := by
  have hr := tornAt_range text b
  unfold tornF
  split
  · rw [ByteArray.size_extract]; omega
  · rw [ba_append_size, ByteArray.size_extract, ByteArray.size_extract]; omega
theorem spec_torn_eq (text old : ByteArray) (b : Int) (h1 : text.size ≤ 1200) (h2 : old.size ≤ 1200) : spec_l7Torn.f text old b = some (tornF text old b) := by
  unfold spec_l7Torn.f tornF
  rw [if_pos (by omega)]
theorem impl_torn_eq (text old : ByteArray) (b : Int) (h1 : text.size ≤ 1200) (h2 : old.size ≤ 1200) : impl_torn.f old text b = some (tornF text old b) := by
  have hr := tornAt_range text b
  have e : mx 0 (mn b (wrap64 ((text.size : Int) - 1))) = tornAt text b := by
    rw [wrap64_id (by omega) (by omega)]
    unfold mx mn tornAt
    repeat' split
    all_goals omega
  unfold impl_torn.f tornF
  rw [e]
  by_cases h : tornAt text b ≥ (old.size : Int)
  · rw [if_neg (by omega), if_pos hr.1, if_pos hr.2, if_pos h]
  · rw [if_pos (by omega), if_pos hr.1, if_pos hr.2, if_pos (by omega), if_pos (by rw [ByteArray.size_extract, ByteArray.size_extract]; omega), if_neg h]
/-- The cells after a crash. -/
def crashGo (mask tear b : Int) : List S54 → Int → List ByteArray → List ByteArray
  | [], _, cs => cs
  | w :: ws, i, cs => crashGo mask tear b ws (i + 1) (if bitOn mask i = true then cs.set w.f0.toNat w.f1 else if i = tear then cs.set w.f0.toNat (tornF w.f1 (rdOf ByteArray.empty cs w.f0) b) else cs)
theorem crashGo_len (mask tear b : Int) : ∀ (ws : List S54) (i : Int) (cs : List ByteArray), (crashGo mask tear b ws i cs).length = cs.length
  | [], _, _ => rfl
  | w :: ws, i, cs => by
    unfold crashGo
    rw [crashGo_len mask tear b ws]
    split
    · simp
    · split <;> simp
theorem rdOf_mem {cs : List ByteArray} {i : Int} (h0 : 0 ≤ i) (h1 : i < (cs.length : Int)) : rdOf ByteArray.empty cs i ∈ cs := by
  unfold rdOf
  rw [List.getD_eq_getElem?_getD, List.getElem?_eq_getElem (by omega)]
  exact List.getElem_mem _
theorem set_small {cs : List ByteArray} {n : Nat} {t : ByteArray} (hs : ∀ c ∈ cs, c.size ≤ 1200) (ht : t.size ≤ 1200) : ∀ c ∈ cs.set n t, c.size ≤ 1200 := fun c hc => by
  rcases List.mem_or_eq_of_mem_set hc with h | rfl
  · exact hs c h
  · exact ht
theorem waitOk_iff {w : S54} (h : waitOk w = true) : 0 ≤ w.f0 ∧ w.f0 ≤ 41 ∧ w.f1.size ≤ 1200 := by
  unfold waitOk at h
  simp only [Bool.and_eq_true, decide_eq_true_eq] at h
  exact ⟨h.1.1, h.1.2, h.2⟩
theorem drop_cons_rd {ws : List S54} {i : Int} (h0 : 0 ≤ i) (h1 : i < (ws.length : Int)) : ws.drop i.toNat = rd_T54 ws i :: ws.drop (i + 1).toNat := by
  have e : (i + 1).toNat = i.toNat + 1 := by omega
  rw [e, List.drop_eq_getElem_cons (by omega)]
  congr 1
  simp only [rd_T54]
  rw [List.getD_eq_getElem?_getD, List.getElem?_eq_getElem (by omega)]
  rfl
theorem impl_crash_loop (mask tear b : Int) (ws : List S54) (h0 : 0 ≤ mask) (h1 : mask < 2 ^ 63) (hw : ∀ w ∈ ws, waitOk w = true) (hl : (ws.length : Int) ≤ 1000) (ro le : Int) : ∀ (d : Nat) (i : Int) (cs : List ByteArray), 0 ≤ i → (ws.length : Int) - i = d → cs.length = 42 → (∀ c ∈ cs, c.size ≤ 1200) →
    Ev (fun k => impl_DiskCrash.l0 k mask tear b ws (ws.length : Int) i cs ro le) (crashGo mask tear b (ws.drop i.toNat) i cs, ([] : List S54), ro, le) := by
  intro d
  induction d with
  | zero =>
    intro i cs hi hd hc hs
    rw [List.drop_eq_nil_of_le (by omega)]
    exact Ev.step (f := fun _ => some _) (fun k => by simp only [impl_DiskCrash.l0]; rw [if_neg (by omega)]; rfl) (Ev.now _)
  | succ d ih =>
    intro i cs hi hd hc hs
    have hlt : i < (ws.length : Int) := by omega
    have ei : wrap64 (i + 1) = i + 1 := wrapS hi (by omega)
    have ht := tmod_range hi (by omega : (1 : Int) ≤ 60)
    rw [drop_cons_rd hi hlt]
    have hmem : rd_T54 ws i ∈ ws := List.mem_of_mem_drop (i := i.toNat) (by rw [drop_cons_rd hi hlt]; exact List.mem_cons_self)
    have hok := waitOk_iff (hw _ hmem)
    generalize hwd : rd_T54 ws i = w at hok ⊢
    unfold crashGo
    by_cases hb : bitOn mask i = true
    · rw [if_pos hb]
      exact Ev.step (fun k => by rw [impl_DiskCrash.l0, if_pos hlt, if_pos hi, if_pos hlt, if_pos ht.1, if_pos ((impl_bit mask i h0 h1 hi).2 hb), hwd, if_pos hok.1, if_pos (by rw [hc]; omega), ei]) (ih (i + 1) _ (by omega) (by omega) (by simpa using hc) (set_small hs hok.2.2))
    · rw [if_neg hb]
      by_cases he : i = tear
      · rw [if_pos he]
        have hold := hs _ (rdOf_mem hok.1 (by rw [hc]; omega))
        exact Ev.step (fun k => by rw [impl_DiskCrash.l0, if_pos hlt, if_pos hi, if_pos hlt, if_pos ht.1, if_neg (fun h => hb ((impl_bit mask i h0 h1 hi).1 h)), if_pos he, hwd, if_pos hok.1, if_pos (by rw [hc]; omega), impl_torn_eq _ _ _ hok.2.2 hold, Option.bind_some, ei]) (ih (i + 1) _ (by omega) (by omega) (by simpa using hc) (set_small hs (tornF_size _ _ _ hok.2.2 hold)))
      · rw [if_neg he]
        exact Ev.step (fun k => by rw [impl_DiskCrash.l0, if_pos hlt, if_pos hi, if_pos hlt, if_pos ht.1, if_neg (fun h => hb ((impl_bit mask i h0 h1 hi).1 h)), if_neg he, ei]) (ih (i + 1) _ (by omega) (by omega) hc hs)
theorem spec_crash_loop (mask tear b : Int) (ws : List S54) (h0 : 0 ≤ mask) (h1 : mask < 2 ^ 63) (hw : ∀ w ∈ ws, waitOk w = true) (hl : (ws.length : Int) ≤ 1000) (cs0 : List ByteArray) (ro le : Int) (ws1 : List S54) (ro1 le1 : Int) : ∀ (d : Nat) (i : Int) (cs : List ByteArray), 0 ≤ i → (ws.length : Int) - i = d → cs.length = 42 → (∀ c ∈ cs, c.size ≤ 1200) →
    Ev (fun k => spec_DiskCrash.l0 k mask tear b i cs0 ws ro le cs ws1 ro1 le1) (crashGo mask tear b (ws.drop i.toNat) i cs, ([] : List S54), -1, -1) := by
  intro d
  induction d with
  | zero =>
    intro i cs hi hd hc hs
    rw [List.drop_eq_nil_of_le (by omega)]
    exact Ev.step (f := fun _ => some _) (fun k => by simp only [spec_DiskCrash.l0]; rw [if_neg (by omega)]; rfl) (Ev.now _)
  | succ d ih =>
    intro i cs hi hd hc hs
    have hlt : i < (ws.length : Int) := by omega
    have ei : wrap64 (i + 1) = i + 1 := wrapS hi (by omega)
    rw [drop_cons_rd hi hlt]
    have hmem : rd_T54 ws i ∈ ws := List.mem_of_mem_drop (i := i.toNat) (by rw [drop_cons_rd hi hlt]; exact List.mem_cons_self)
    have hok := waitOk_iff (hw _ hmem)
    generalize hwd : rd_T54 ws i = w at hok ⊢
    unfold crashGo
    refine Ev.step (fun k => by rw [spec_DiskCrash.l0, if_pos hlt, if_pos hi, hwd, ei]) (Ev.bind (l7Bit_ev mask i h0 h1 hi) ?_)
    by_cases hb : bitOn mask i = true
    · rw [if_pos hb]
      exact Ev.congr (fun k => by rw [if_pos hb, if_pos hok.1, if_pos (by rw [hc]; omega)]) (ih (i + 1) _ (by omega) (by omega) (by simpa using hc) (set_small hs hok.2.2))
    · rw [if_neg hb]
      by_cases he : i = tear
      · rw [if_pos he]
        have hold := hs _ (rdOf_mem hok.1 (by rw [hc]; omega))
        exact Ev.congr (fun k => by rw [if_neg hb, if_pos he, if_pos hok.1, if_pos (by rw [hc]; omega), spec_torn_eq _ _ _ hok.2.2 hold, Option.bind_some]) (ih (i + 1) _ (by omega) (by omega) (by simpa using hc) (set_small hs (tornF_size _ _ _ hok.2.2 hold)))
      · rw [if_neg he]
        exact Ev.congr (fun k => by rw [if_neg hb, if_neg he]) (ih (i + 1) _ (by omega) (by omega) hc hs)
/-- A disk after a crash. -/
def crashOf (cells : List ByteArray) (waits : List S54) (room left mask tear b : Int) : List ByteArray × List S54 × Int × Int :=
  if diskOk cells waits room left = true ∧ 0 ≤ mask then (crashGo mask tear b waits 0 cells, [], -1, -1) else ([], [], 0, 0)
theorem diskOk_iff {cells : List ByteArray} {waits : List S54} {room left : Int} (h : diskOk cells waits room left = true) : cells.length = 42 ∧ waits.length ≤ 100 ∧ (∀ c ∈ cells, c.size ≤ 1200) ∧ (∀ w ∈ waits, waitOk w = true) := by
  unfold diskOk at h
  simp only [Bool.and_eq_true, decide_eq_true_eq, List.all_eq_true] at h
  exact ⟨h.1.1.1.1.1, h.1.1.1.1.2, h.1.2, h.2⟩
theorem crashOf_len (cells : List ByteArray) (waits : List S54) (room left mask tear b : Int) : (crashOf cells waits room left mask tear b).1.length ≤ 42 ∧ (crashOf cells waits room left mask tear b).2.1.length = 0 := by
  unfold crashOf
  split
  · rename_i h
    refine ⟨?_, rfl⟩
    show (crashGo mask tear b waits 0 cells).length ≤ 42
    rw [crashGo_len, (diskOk_iff h.1).1]
    omega
  · exact ⟨by simp, rfl⟩
theorem impl_DiskCrash_ev (cells : List ByteArray) (waits : List S54) (room left mask tear b : Int) (hm : mask < 2 ^ 63) :
    Ev (fun k => impl_DiskCrash.f k cells waits room left mask tear b) (crashOf cells waits room left mask tear b) := by
  have hj : ∀ x, x = true → Ev (fun k => impl_DiskCrash.j0 k mask tear b x cells waits room left) ([], [], 0, 0) := fun x hx => by
    subst hx
    exact Ev.step (f := fun _ => some _) (fun k => by simp only [impl_DiskCrash.j0, if_true]) (Ev.now _)
  unfold impl_DiskCrash.f crashOf
  rw [impl_DiskOk_eq]
  simp only [Option.bind_some]
  by_cases hok : diskOk cells waits room left = true
  · refine Ev.congr (fun k => if_pos hok) ?_
    by_cases h0 : 0 ≤ mask
    · rw [if_pos ⟨hok, h0⟩]
      have hd := diskOk_iff hok
      have e : decide (mask < 0) = false := decide_eq_false (by omega)
      rw [e]
      have hl := impl_crash_loop mask tear b waits h0 hm hd.2.2.2 (by have := hd.2.1; omega) (-1) (-1) waits.length 0 cells (by omega) (by omega) hd.1 hd.2.2.1
      refine Ev.step (fun k => ?_) hl
      simp only [impl_DiskCrash.j0]
      rw [if_neg (by decide)]
      unfold impl_clone_string.f
      rw [if_pos (by rw [hd.1]; decide)]
      rfl
    · rw [if_neg (fun h => h0 h.2)]
      exact hj _ (decide_eq_true (by omega))
  · rw [if_neg (fun h => hok h.1)]
    exact Ev.congr (fun k => if_neg hok) (hj _ rfl)
theorem spec_DiskCrash_ev (cells : List ByteArray) (waits : List S54) (room left mask tear b : Int) (hm : mask < 2 ^ 63) (hc : (cells.length : Int) ≤ 4611686018427387904) (hw : (waits.length : Int) ≤ 4611686018427387904) :
    Ev (fun k => spec_DiskCrash.f k cells waits room left mask tear b) (crashOf cells waits room left mask tear b) := by
  have hj : ∀ x, x = true → Ev (fun k => spec_DiskCrash.j0 k mask tear b x cells waits room left) ([], [], 0, 0) := fun x hx => by
    subst hx
    exact Ev.step (f := fun _ => some _) (fun k => by simp only [spec_DiskCrash.j0, if_true]) (Ev.now _)
  unfold spec_DiskCrash.f crashOf
  refine Ev.bind (spec_l7Ok_ev cells waits room left hc hw) ?_
  by_cases hok : diskOk cells waits room left = true
  · refine Ev.congr (fun k => if_pos hok) ?_
    by_cases h0 : 0 ≤ mask
    · rw [if_pos ⟨hok, h0⟩]
      have hd := diskOk_iff hok
      have e : decide (mask < 0) = false := decide_eq_false (by omega)
      rw [e]
      have hl := spec_crash_loop mask tear b waits h0 hm hd.2.2.2 (by have := hd.2.1; omega) cells room left ([] ++ waits) room left waits.length 0 cells (by omega) (by omega) hd.1 hd.2.2.1
      refine Ev.step (fun k => ?_) hl
      simp only [spec_DiskCrash.j0]
      rw [if_neg (by decide)]
      unfold spec_l7Copy.f
      rw [Option.bind_some, if_pos (by rw [hd.1]; decide), Option.bind_some, if_pos (by have := hd.2.1; simp only [List.length_nil]; omega), Option.bind_some]
      rfl
    · rw [if_neg (fun h => h0 h.2)]
      exact hj _ (decide_eq_true (by omega))
  · rw [if_neg (fun h => hok h.1)]
    exact Ev.congr (fun k => if_neg hok) (hj _ rfl)
end Go.Proofs.Ytldjfonpegffiaa.Q

namespace Go.Proofs.Ytldjfonpegffiaa.Pure
open Go.RowKit
open Go.RowKit Go.Proofs.Ytldjfonpegffiaa.Q Go.Proofs.YtldjfonpegffiaaW.PrintWords Go.Proofs.YtldjfonpegffiaaW.PrintLast Go.Proofs.YtldjfonpegffiaaW.PrintMore
set_option linter.unusedVariables false
set_option linter.unusedSimpArgs false
theorem FnExactDiskCrash : laws_FnExactDiskCrash.Pure := by
  intro x mask tear b hx hmask htear hb
  apply Ev.rounds
  have hm : mask < 2 ^ 63 := by have := lit_i64 hmask; omega
  obtain ⟨r, hr, hc⟩ := laws_szDisk_ev x.f0 x.f1 x.f2 x.f3 1048576 (by omega) (by omega) hx.1 hx.2.1
  unfold laws_FnExactDiskCrash.f
  refine Ev.bind hr ?_
  rcases hc with rfl | ⟨h0, h1, hs0, hs1⟩
  · exact Ev.congr (fun k => if_pos (by decide)) (Ev.now _)
  refine Ev.congr (fun k => if_neg (by omega)) ?_
  have ht := laws_toDisk_ev x.f0 x.f1 x.f2 x.f3 hs0 hs1
  generalize hws : x.f1.map cv117_54 = ws at ht
  have hwl : ws.length ≤ 1048576 := by rw [← hws, List.length_map]; exact hs1.1
  have hsp := spec_DiskCrash_ev x.f0 ws x.f2 x.f3 mask tear b hm (by have := hs0.1; omega) (by omega)
  have him := impl_DiskCrash_ev x.f0 ws x.f2 x.f3 mask tear b hm
  have hlen := crashOf_len x.f0 ws x.f2 x.f3 mask tear b
  generalize crashOf x.f0 ws x.f2 x.f3 mask tear b = c at hsp him hlen
  obtain ⟨c0, c1, c2, c3⟩ := c
  have heq := laws_eqDisk_ev c0 c1 c2 c3 (by have := hlen.1; simp only at this; omega) (by have := hlen.2; simp only at this; omega)
  refine Ev.bind ht (Ev.bind hsp (Ev.bind ht (Ev.bind him (Ev.bind heq (Ev.congr (fun k => if_pos rfl) (Ev.bind ht ?_))))))
  refine Ev.bind (laws_eqDisk_ev x.f0 ws x.f2 x.f3 (by have := hs0.1; omega) (by omega)) (Ev.congr (fun k => if_pos rfl) ?_)
  refine Ev.bind (markDisk_ev x.f0 ws x.f2 x.f3 1 (by omega) (by omega) (by have := hs0.1; omega) (by omega)) ?_
  refine Ev.congr (fun k => if_neg (markDisk_lt x.f0 ws 1 (by omega))) ?_
  refine Ev.bind heq ?_
  refine Ev.step (fun k => by rw [laws_FnExactDiskCrash.j0, if_neg (by decide)]) ?_
  refine Ev.bind (markDisk_ev c0 c1 c2 c3 1 (by omega) (by omega) (by have := hlen.1; simp only at this; omega) (by have := hlen.2; simp only at this; omega)) ?_
  have hh := heldDisk_ev c0 c1 c2 c3 1 (by omega) (by omega) (by have := hlen.1; simp only at this; omega) (by have := hlen.2; simp only at this; omega)
  refine Ev.bind hh (Ev.congr (fun k => by rw [if_neg (markDisk_lt c0 c1 1 (by omega)), if_pos rfl]) ?_)
  refine Ev.bind ht (Ev.bind him (Ev.bind heq (Ev.congr (fun k => if_pos rfl) (Ev.bind hh ?_))))
  exact Ev.congr (fun k => by rw [if_neg (markDisk_lt c0 c1 1 (by omega)), if_pos rfl]) (Ev.now _)
end Go.Proofs.Ytldjfonpegffiaa.Pure

namespace Go.Proofs.Ytldjfonpegffiaa.fnExactDiskCrash
open Go.ChangeShapes Go.WideShapes Go.ChangeAt Go.RowKit
open Go.ChangeMaps (open_string shut_string)
open Go.RowKit Go.Proofs.Ytldjfonpegffiaa.Q Go.Proofs.YtldjfonpegffiaaW.PrintWords Go.Proofs.YtldjfonpegffiaaW.PrintLast Go.Proofs.YtldjfonpegffiaaW.PrintMore
set_option linter.unusedVariables false
theorem walk (P : laws_FnExactDiskCrash.Pure) (v0 : Value) (x0 : S43) (v1 : Value) (x1 : Int) (v2 : Value) (x2 : Int) (v3 : Value) (x3 : Int) (w : World) (h0 : ∃ cs, v0 = .agg cs ∧ Kd.K k43 w x0 cs.toList) (h1 : v1 = .int .i64 x1) (h2 : v2 = .int .i64 x2) (h3 : v3 = .int .i64 x3) (w0 : wf43 x0) (w1 : (fun n => (Lit.int .i64 n).wf = true) x1) (w2 : (fun n => (Lit.int .i64 n).wf = true) x2) (w3 : (fun n => (Lit.int .i64 n).wf = true) x3) :
    Calls Try.prog 10 #[v0, v1, v2, v3] w fun e w' => e = .returned (.bool true) ∧ Below w.heap.size w w' := by
  obtain ⟨k, h⟩ := P x0 x1 x2 x3 w0 w1 w2 w3
  obtain ⟨cs0, rfl, hk0⟩ := h0
  obtain ⟨B0_0, c0_0, B0_1, c0_1, e0, l0_0, g0_0, l0_1, g0_1⟩ := k43_open hk0
  obtain ⟨cs0⟩ := cs0
  obtain rfl : cs0 = _ := e0
  obtain rfl := h1
  obtain rfl := h2
  obtain rfl := h3
  refine (laws_FnExactDiskCrash.calls k _ _ x0.f0 _ _ x0.f1 x0.f2 x0.f3 x1 x2 x3 true w g0_0 l0_0 g0_1 l0_1 rfl h).mono ?_
  rintro e w' ⟨rfl, hd⟩
  exact ⟨rfl, hd⟩
theorem own : ownKnob Try.prog.godebug = none := by kernel_rfl
theorem laidOut : laidOutB Try.prog = true := by kernel_rfl
set_option maxRecDepth 100000 in
theorem lifted (os : Os) (started : os.Started) (H : Type) (enc : TypeId × Value → H) :
    ReturnsInHanded {} Try.checked os 10 .any (Rows.fnExactDiskCrashSpec.pre6 enc Try.prog Try.f10 Rows.fnExactDiskCrashRow.domain false) (Rows.fnExactDiskCrashSpec.post enc Try.prog Try.f10 false true false false) := by
  refine returnsInHanded_of_change_sized (C := Try.checked) own started (by kernel_rfl) Try.func10
    (ChangeSpec.witness6 (enc := enc) (C := Try.checked) false ⟨#[], #[.agg #[.slice none 0 0, .slice none 0 0, .int .i64 0, .int .i64 0], .int .i64 0, .int .i64 0, .int .i64 0], []⟩ 12 (by kernel_rfl) (by kernel_rfl) (by kernel_rfl) (by kernel_rfl)) ?_
  intro W base args ds gs before hval0 hW hcnd hsz0 _
  have hval : ∀ (j : Nat) t v, Try.f10.params[j]? = some t → args[j]? = some v → Value.okWide Try.prog W .any base t v := hval0
  have hW' := hW
  obtain ⟨p, q, hA0, hV, rfl, hfz, hnd⟩ := hW
  have hA : DataW.TrodAll enc Try.prog W 0 (fun _ => true) true Try.f10.params.toList args.toList ds p := hA0
  rw [Try.params10] at hA hval
  obtain ⟨v0, vs0, d0, ds0, p0, q0, hargs, rfl, rfl, h0, r0⟩ := trodAll_cons hA
  obtain ⟨v1, vs1, d1, ds1, p1, q1, rfl, rfl, rfl, h1, r1⟩ := trodAll_cons r0
  obtain ⟨v2, vs2, d2, ds2, p2, q2, rfl, rfl, rfl, h2, r2⟩ := trodAll_cons r1
  obtain ⟨v3, vs3, d3, ds3, p3, q3, rfl, rfl, rfl, h3, r3⟩ := trodAll_cons r2
  obtain ⟨rfl, rfl, rfl⟩ := trodAll_nil r3
  obtain rfl : args = #[v0, v1, v2, v3] := by cases args; simp_all
  obtain ⟨rfl, rfl⟩ := trodVars_none hV
  have k0 := h0
  have lt0 : ∀ x ∈ p0, x.block < W.heap.size := by obtain ⟨m, hm⟩ := k0; exact DataW.trod_lt m _ _ _ hm
  obtain ⟨x0, hx0, w0⟩ := opens_arg_struct Try.underlying43 opens43 (hval 0 43 v0 rfl rfl) h0
  have k1 := h1
  have lt1 : ∀ x ∈ p1, x.block < W.heap.size := by obtain ⟨m, hm⟩ := k1; exact DataW.trod_lt m _ _ _ hm
  obtain ⟨x1, rfl, rfl, rfl, w1⟩ := open_int Try.underlying3 (hval 1 3 v1 rfl rfl) h1
  have k2 := h2
  have lt2 : ∀ x ∈ p2, x.block < W.heap.size := by obtain ⟨m, hm⟩ := k2; exact DataW.trod_lt m _ _ _ hm
  obtain ⟨x2, rfl, rfl, rfl, w2⟩ := open_int Try.underlying3 (hval 2 3 v2 rfl rfl) h2
  have k3 := h3
  have lt3 : ∀ x ∈ p3, x.block < W.heap.size := by obtain ⟨m, hm⟩ := k3; exact DataW.trod_lt m _ _ _ hm
  obtain ⟨x3, rfl, rfl, rfl, w3⟩ := open_int Try.underlying3 (hval 3 3 v3 rfl rfl) h3
  clear hA0 hval0 hsz0
  refine (walk Pure.FnExactDiskCrash _ x0 _ x1 _ x2 _ x3 W hx0 rfl rfl rfl w0 w1 w2 w3).mono fun e W' ⟨he, bel⟩ => ?_
  subst he
  exact ⟨_, rfl, _, _, _, [], _, [], hW', trodAll_mk1 (shut_bool Try.underlying4 _), (trodAll_cons_mk (Below.trod laidOut (by kernel_rfl) (of_decide_eq_true (by kernel_rfl)) k0 bel lt0) (trodAll_cons_mk (shut_int Try.underlying3 w1) (trodAll_cons_mk (shut_int Try.underlying3 w2) (trodAll_cons_mk (shut_int Try.underlying3 w3) trodAll_mk0)))), rfl, bel.frame _, fun h => by cases h⟩
theorem over : Rows.fnExactDiskCrashRow.holds Try.pinned (OpenSpec.ofChange Rows.fnExactDiskCrashSpec) :=
  OpenClaim.holds_of_wide 10 Try.f10 rfl rfl rfl rfl rfl rfl rfl ⟨rfl, rfl, rfl, rfl, rfl⟩ rfl rfl rfl rfl rfl (by kernel_rfl) Try.func10 (by kernel_rfl)
    (of_decide_eq_true (by kernel_rfl)) (by unfold Func.isWrapper; first | (rw [if_pos (by decide +kernel)]; kernel_rfl) | (rw [if_neg (by decide +kernel)]; exact ⟨rfl, rfl⟩))
    (fun os started H enc _ => lifted os started H enc)
theorem proved : Rows.FnExactDiskCrashSaid := over
#print axioms proved
end Go.Proofs.Ytldjfonpegffiaa.fnExactDiskCrash
namespace Go.Proofs.Ytldjfonpegffiaa
/-- The row, under a short name, for the claim. -/
theorem fnExactDiskCrash_holds : Rows.FnExactDiskCrashSaid := fnExactDiskCrash.proved
end Go.Proofs.Ytldjfonpegffiaa
