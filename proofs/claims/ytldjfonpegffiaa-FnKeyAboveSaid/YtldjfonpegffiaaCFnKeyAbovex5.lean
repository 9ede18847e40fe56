/- A part of the proof that the law FnKeyAbove answers true for every input: contracts of functions that it reaches, or its plain law. -/
import Derived.Test.YtldjfonpegffiaaProg
import Derived.Below
import Derived.Deep.Draws
import Derived.Deep.AppendLies
import Derived.Maps.AppendAt
import Derived.OwnWalk
import Derived.Laws.BytesArg
import Derived.Laws.MakeOwn
import Derived.Laws.OwnMore
import Derived.Deep.OwnRows
import Derived.Tactics
import Derived.Lib.ConvBytes
import Derived.Laws.Slices
import Derived.WalkKit
import Derived.KernelRfl
import Derived.RowKit3
import Derived.Deep.LoopGhost
import Derived.Deep.QuietTactic
import Derived.BigQuiet
import Derived.WideLaws
import Derived.Deep.DeepCutAuto
import Derived.Deep.CutBlock
import Derived.Deep.RegionHeld3
import Derived.Laws.Rows
import Derived.Lib.AppendStr
import Derived.ArgAppend
import Derived.Laws.IdiomCopy
import Derived.OrdersHeld
import Derived.Laws.BitsLemmas
import Derived.RowKit
import Derived.Deep.Slices
import Derived.ChangeArms
import Derived.WideShapes
import Derived.Test.YtldjfonpegffiaaRows
import Derived.ProofKit
import Derived.OpenShut
import Derived.ShutString
import Derived.ChangeOld
import Derived.SizedLaws
import Derived.Test.YtldjfonpegffiaaCFnKeyAbovex0
import Derived.Test.YtldjfonpegffiaaCFnKeyAbovex1
import Derived.Test.YtldjfonpegffiaaCFnKeyAbovex2
import Derived.Test.YtldjfonpegffiaaCFnKeyAbovex3
import Derived.Test.YtldjfonpegffiaaCFnKeyAbovex4
namespace Go.Proofs.Ytldjfonpegffiaa.Q
open Go.Deep Go.WideShapes Go.ChangeShapes
open Go.RowKit Go.Proofs.Ytldjfonpegffiaa.Q Go.Proofs.YtldjfonpegffiaaW.PrintWords Go.Proofs.YtldjfonpegffiaaW.PrintLast Go.Proofs.YtldjfonpegffiaaW.PrintMore
set_option linter.unusedVariables false
set_option linter.unusedSimpArgs false
/-- Whatever reads as data of type t is told by the kind d, and what it tells meets wf. -/
def Opens {α : Type} (P : Program) (t : TypeId) (d : Kd α) (wf : α → Prop) : Prop :=
  ∀ (H : Type) (enc : TypeId × Value → H) (w : World) (base : Nat) (spare : Nat → Bool) (held : Bool) (fuel : Nat) (cs : List Value) (x : DataW H × List MemPlace),
    DataW.trod enc P w base spare held fuel t cs = some x → ∃ y, d.K w y cs ∧ wf y
theorem opens_int {P : Program} {t : TypeId} {k : IntKind} (ht : P.underlying t = some (.int k)) : Opens P t (Kd.int k) (fun n => (Lit.int k n).wf = true) := by
  intro H enc w base spare held fuel cs x h
  obtain ⟨n, rfl, _, hw⟩ := DataW.trod_int ht h
  exact ⟨n, rfl, hw⟩
theorem addr_add_add (a : Addr) (i j : Nat) : (a.add i).add j = a.add (i + j) := by
  by_cases hi : i = 0
  · subst hi; simp [Addr.add]
  · by_cases hj : j = 0
    · subst hj; simp [Addr.add]
    · simp [Addr.add, hi, hj, Nat.add_assoc]
theorem opens_slice {α : Type} {P : Program} {t e : TypeId} {d : Kd α} {wf : α → Prop} (ht : P.underlying t = some (.slice e)) (hd : Opens P e d wf) (hs : P.cellsOf e = d.sz) :
    Opens P t (Kd.slice e d) (fun l => l.length ≤ maxLen ∧ ∀ y ∈ l, wf y) := by
  intro H enc w base spare held fuel cs x h
  rcases open_slice ht h with ⟨rfl, _⟩ | ⟨a, len, cap, m, n, D, Pl, rfl, hb, hl, hm, hmm, _, hx⟩
  · exact ⟨[], ⟨none, 0, rfl, Nat.le_refl _, Kd.C_nil _ _⟩, by simp, by simp⟩
  · have hlm : len ≤ m := by rw [hmm]; split <;> omega
    have key : ∀ k, k ≤ len → ∃ ys : List α, ys.length = k ∧ ∀ j y, ys[j]? = some y → wf y ∧ ∃ c, c.length = d.sz ∧ d.K w y c ∧ ∀ i u, c[i]? = some u → w.cell? (a.add (j * d.sz + i)) = some u := by
      intro k
      induction k with
      | zero => intro _; exact ⟨[], rfl, fun j y hj => by simp at hj⟩
      | succ k ih =>
        intro hk
        obtain ⟨ys, hy, hall⟩ := ih (by omega)
        obtain ⟨cs', hc, htr⟩ := hx k (by omega)
        obtain ⟨y, hK, hw⟩ := hd H enc w base spare held n cs' _ htr
        rw [hs] at hc
        obtain ⟨_, hlen, hcell⟩ := World.cells?_some hc
        refine ⟨ys ++ [y], by simp [hy], fun j z hj => ?_⟩
        by_cases hjk : j < k
        · exact hall j z (by rw [List.getElem?_append_left (by omega)] at hj; exact hj)
        · have hj2 : j < (ys ++ [y]).length := (List.getElem?_eq_some_iff.1 hj).1
          simp [hy] at hj2
          obtain rfl : j = k := by omega
          rw [List.getElem?_append_right (by omega)] at hj
          simp [hy] at hj
          subst hj
          exact ⟨hw, cs', hlen, hK, fun i u hu => by
            have hi : i < d.sz := by have := (List.getElem?_eq_some_iff.1 hu).1; omega
            rw [← addr_add_add, hcell i hi]; exact hu⟩
    obtain ⟨ys, hy, hall⟩ := key len (Nat.le_refl _)
    subst hy
    have hmx : ys.length ≤ 9223372036854775807 := by have := hl; have h2 := hm; unfold maxLen at h2; omega
    exact ⟨ys, ⟨some a, cap, rfl, hl, rfl, hmx, fun _ => ⟨a, rfl, fun j p hp => (hall j p hp).2⟩⟩, by unfold maxLen; exact hmx, fun y hm' => by
      obtain ⟨j, hj⟩ := List.getElem?_of_mem hm'
      exact (hall j y hj).1⟩
theorem opens_arg_slice {α : Type} {P : Program} {t e : TypeId} {d : Kd α} {wf : List α → Prop} (ht : P.underlying t = some (.slice e)) (ho : Opens P t (Kd.slice e d) wf) {H : Type} {enc : TypeId × Value → H} {W : World} {base b0 : Nat} {spare : Nat → Bool} {held : Bool} {r : Reach} {v : Value} {x : DataW H} {p : List MemPlace}
    (hv : Value.okWide P W r b0 t v) (h : DataW.Trod enc P W base spare held t v x p) : ∃ y : List α, (∃ B c, v = .slice B y.length c ∧ y.length ≤ c ∧ Kd.C d W B y.length y) ∧ wf y := by
  obtain ⟨a, len, cap, rfl⟩ := okWide_slice ht hv
  obtain ⟨fuel, hf⟩ := h
  obtain ⟨y, ⟨B, c, he, hl, hc⟩, hw⟩ := ho H enc W base spare held fuel _ _ hf
  simp [Value.cells] at he
  obtain ⟨rfl, rfl, rfl⟩ := he
  exact ⟨y, ⟨_, _, rfl, hl, hc⟩, hw⟩
end Go.Proofs.Ytldjfonpegffiaa.Q

namespace Go.Proofs.Ytldjfonpegffiaa.Q
open Go.RowKit
open Go.RowKit Go.Proofs.Ytldjfonpegffiaa.Q Go.Proofs.YtldjfonpegffiaaW.PrintWords Go.Proofs.YtldjfonpegffiaaW.PrintLast Go.Proofs.YtldjfonpegffiaaW.PrintMore
/-- The pure statement of laws_FnKeyAbove. -/
def laws_FnKeyAbove.Pure : Prop := ∀ (x0 : List Int) (x1 : List Int), (fun l => l.length ≤ maxLen ∧ ∀ y ∈ l, (fun n => (Lit.int .u8 n).wf = true) y) x0 → (fun l => l.length ≤ maxLen ∧ ∀ y ∈ l, (fun n => (Lit.int .u8 n).wf = true) y) x1 → ∃ k, laws_FnKeyAbove.f k x0 x1 = some true
end Go.Proofs.Ytldjfonpegffiaa.Q

namespace Go.Proofs.Ytldjfonpegffiaa.Q
open Go.RowKit Go.Proofs.Ytldjfonpegffiaa.Q Go.Proofs.YtldjfonpegffiaaW.PrintWords Go.Proofs.YtldjfonpegffiaaW.PrintLast Go.Proofs.YtldjfonpegffiaaW.PrintMore
set_option linter.unusedVariables false
set_option linter.unusedSimpArgs false
theorem wrap64_id {n : Int} (h0 : -9223372036854775808 ≤ n) (h1 : n ≤ 9223372036854775807) : wrap64 n = n := by unfold wrap64; omega
theorem wraps_i64 (n : Int) (h₀ : 0 ≤ n) (h₁ : n < 2 ^ 62) : IntKind.i64.wrap n = n := by rw [IntKind.wrap_i64]; omega
theorem xor_nonneg (a b : Int) (ha : 0 ≤ a) (hb : 0 ≤ b) (ha1 : a < 2 ^ 62) (hb1 : b < 2 ^ 62) : 0 ≤ Go.bits .xor .i64 a b := by
  obtain ⟨a, rfl⟩ := Int.eq_ofNat_of_zero_le ha
  obtain ⟨b, rfl⟩ := Int.eq_ofNat_of_zero_le hb
  have ha2 : a % 2 ^ 64 = a := Nat.mod_eq_of_lt (by omega)
  have hb2 : b % 2 ^ 64 = b := Nat.mod_eq_of_lt (by omega)
  have hx : a ^^^ b < 2 ^ 62 := Nat.xor_lt_two_pow (by omega) (by omega)
  have e : (BitVec.ofNat IntKind.i64.bits a ^^^ BitVec.ofNat IntKind.i64.bits b).toNat = a ^^^ b := by
    rw [BitVec.toNat_xor, BitVec.toNat_ofNat, BitVec.toNat_ofNat]
    show (a % 2 ^ 64) ^^^ (b % 2 ^ 64) = a ^^^ b
    rw [ha2, hb2]
  simp only [bits, BitVec.ofInt_natCast, e]
  rw [wraps_i64 _ (by omega) (by omega)]
  omega
theorem tmod_range {a n : Int} (ha : 0 ≤ a) (hn : 1 ≤ n) : 0 ≤ Int.tmod a n ∧ Int.tmod a n < n := by
  rw [Int.tmod_eq_emod_of_nonneg ha]
  exact ⟨Int.emod_nonneg _ (by omega), Int.emod_lt_of_pos _ (by omega)⟩
/-- A reader of draws: its bytes, and the place where it stands. -/
def RdOk (b : List Int) (p : Int) (u : Int) : Prop := b.length ≤ 2000 ∧ (∀ y ∈ b, 0 ≤ y ∧ y ≤ 255) ∧ 0 ≤ p ∧ p ≤ u
theorem rd_byte {b : List Int} (hb : ∀ y ∈ b, 0 ≤ y ∧ y ≤ 255) (i : Int) : 0 ≤ rd b i ∧ rd b i ≤ 255 := by
  unfold rd
  rw [List.getD_eq_getElem?_getD]
  cases h : b[i.toNat]? with
  | none => simp
  | some y => exact hb y (List.mem_of_getElem? h)
theorem pick_some {b : List Int} {p u : Int} (h : RdOk b p u) (hu : u ≤ 1000000000000) (k : Nat) (n : Int) (hn : n ≤ 1000000000) :
    ∃ r, spec_l1Rd_pick.f (k + 1) b p n = some (r, p + 1) ∧ RdOk b (p + 1) (u + 1) ∧ 0 ≤ r ∧ (r = 0 ∨ r < n) := by
  obtain ⟨h1, h2, h3, h4⟩ := h
  have hok : RdOk b (p + 1) (u + 1) := ⟨h1, h2, by omega, by omega⟩
  have e1 : wrap64 (p + 1) = p + 1 := wrap64_id (by omega) (by omega)
  have e2 : wrap64 (p + 1 - 1) = p := by rw [wrap64_id (by omega) (by omega)]; omega
  unfold spec_l1Rd_pick.f
  by_cases hn1 : n < 1
  · rw [if_pos hn1]
    simp only [spec_l1Rd_pick.j0, if_true, e1]
    exact ⟨0, rfl, hok, Int.le_refl _, .inl rfl⟩
  rw [if_neg hn1]
  simp only [spec_l1Rd_pick.j0, e1, e2]
  by_cases hb : (b.length : Int) = 0
  · rw [if_pos (by simpa using hb)]
    exact ⟨0, rfl, hok, Int.le_refl _, .inl rfl⟩
  rw [if_neg (by simpa using hb)]
  have hl : 1 ≤ (b.length : Int) := by omega
  by_cases hp : p < (b.length : Int)
  · rw [if_pos hp, if_pos h3, if_neg (by omega)]
    have hr := rd_byte h2 p
    rw [wrap64_id (by omega) (by omega)]
    have ht := tmod_range hr.1 (by omega : 1 ≤ n)
    exact ⟨_, rfl, hok, ht.1, .inr ht.2⟩
  rw [if_neg hp, if_neg (by omega)]
  have hm1 := tmod_range h3 hl
  have e7 : wrap64 (p * 7) = p * 7 := wrap64_id (by omega) (by omega)
  have e73 : wrap64 (p * 7 + 3) = p * 7 + 3 := wrap64_id (by omega) (by omega)
  have hm2 := tmod_range (show 0 ≤ p * 7 + 3 by omega) hl
  simp only [e7, e73]
  rw [if_pos hm1.1, if_pos hm1.2, if_pos hm2.1, if_pos hm2.2, if_neg (by omega)]
  have hr1 := rd_byte h2 (Int.tmod p (b.length : Int))
  have hr2 := rd_byte h2 (Int.tmod (p * 7 + 3) (b.length : Int))
  generalize rd b (Int.tmod p (b.length : Int)) = y1 at *
  generalize rd b (Int.tmod (p * 7 + 3) (b.length : Int)) = y2 at *
  have hq : 0 ≤ Int.tdiv p (b.length : Int) ∧ Int.tdiv p (b.length : Int) ≤ p := by
    rw [Int.tdiv_eq_ediv_of_nonneg h3]
    exact ⟨Int.ediv_nonneg h3 (by omega), Int.ediv_le_self _ h3⟩
  generalize Int.tdiv p (b.length : Int) = q at *
  have w1 : wrap64 y1 = y1 := wrap64_id (by omega) (by omega)
  have w2 : wrap64 y2 = y2 := wrap64_id (by omega) (by omega)
  have w3 : wrap64 (y1 * 131) = y1 * 131 := wrap64_id (by omega) (by omega)
  have w4 : wrap64 (y2 * 1117) = y2 * 1117 := wrap64_id (by omega) (by omega)
  have w5 : wrap64 (y1 * 131 + y2 * 1117) = y1 * 131 + y2 * 1117 := wrap64_id (by omega) (by omega)
  have w6 : wrap64 (p * 29) = p * 29 := wrap64_id (by omega) (by omega)
  have w7 : wrap64 (y1 * 131 + y2 * 1117 + p * 29) = y1 * 131 + y2 * 1117 + p * 29 := wrap64_id (by omega) (by omega)
  have w8 : wrap64 q = q := wrap64_id (by omega) (by omega)
  have w9 : wrap64 (q * 53) = q * 53 := wrap64_id (by omega) (by omega)
  have w10 : wrap64 (y1 * 131 + y2 * 1117 + p * 29 + q * 53) = y1 * 131 + y2 * 1117 + p * 29 + q * 53 := wrap64_id (by omega) (by omega)
  simp only [w1, w2, w3, w4, w5, w6, w7, w8, w9, w10]
  have hx : 0 ≤ y1 * 131 + y2 * 1117 + p * 29 + q * 53 ∧ y1 * 131 + y2 * 1117 + p * 29 + q * 53 < 2 ^ 60 := by omega
  generalize y1 * 131 + y2 * 1117 + p * 29 + q * 53 = x at *
  have hd : 0 ≤ Int.tdiv x 64 ∧ Int.tdiv x 64 ≤ x := by
    rw [Int.tdiv_eq_ediv_of_nonneg hx.1]
    omega
  have w11 : wrap64 (Int.tdiv x 64) = Int.tdiv x 64 := wrap64_id (by omega) (by omega)
  rw [w11]
  have hxx := xor_nonneg x (Int.tdiv x 64) hx.1 hd.1 (by omega) (by omega)
  have ht := tmod_range hxx (by omega : 1 ≤ n)
  exact ⟨_, rfl, hok, ht.1, .inr ht.2⟩
theorem of_some {b : List Int} {p u : Int} (h : RdOk b p u) (hu : u ≤ 1000000000000) (k : Nat) (l : List ByteArray) (hl : 1 ≤ l.length) (hl2 : l.length ≤ 1000000) :
    ∃ s, spec_l1Rd_of.f (k + 1) b p l = some (s, p + 1) ∧ RdOk b (p + 1) (u + 1) ∧ s ∈ l := by
  obtain ⟨r, hr, hok, h0, h1⟩ := pick_some h hu k (l.length : Int) (by omega)
  have hr1 : r < (l.length : Int) := by omega
  unfold spec_l1Rd_of.f
  rw [hr]
  simp only [Option.bind_some]
  rw [if_pos h0, if_pos hr1]
  refine ⟨_, rfl, hok, ?_⟩
  unfold rdOf
  rw [List.getD_eq_getElem?_getD, List.getElem?_eq_getElem (by omega)]
  exact List.getElem_mem _
theorem open_some (l : List Int) (hl : (l.length : Int) ≤ 1048576) (hb : ∀ y ∈ l, (Lit.int .u8 y).wf = true) : ∃ b, spec_l1Open.f l = some (b, 0) ∧ RdOk b 0 0 := by
  have hb' : ∀ y ∈ l, 0 ≤ y ∧ y ≤ 255 := fun y hy => by
    have := hb y hy
    simp [Lit.wf, IntKind.min, IntKind.max, IntKind.signed, IntKind.bits] at this
    omega
  unfold spec_l1Open.f
  by_cases h : (l.length : Int) > 2000
  · rw [if_pos h, if_pos (by omega)]
    exact ⟨l.take 2000, rfl, by simp; omega, fun y hy => hb' y (List.mem_of_mem_take hy), Int.le_refl _, Int.le_refl _⟩
  · rw [if_neg h]
    exact ⟨l, rfl, by omega, hb', Int.le_refl _, Int.le_refl _⟩
end Go.Proofs.Ytldjfonpegffiaa.Q

namespace Go.Proofs.Ytldjfonpegffiaa.Q
open Go.RowKit Go.Proofs.Ytldjfonpegffiaa.Q Go.Proofs.YtldjfonpegffiaaW.PrintWords Go.Proofs.YtldjfonpegffiaaW.PrintLast Go.Proofs.YtldjfonpegffiaaW.PrintMore
set_option linter.unusedVariables false
set_option linter.unusedSimpArgs false
theorem ba_ext {s t : ByteArray} (h : s.data.toList = t.data.toList) : s = t := by
  cases s; cases t; congr; exact Array.ext' h
theorem ba_toList (s : ByteArray) : s.toList = s.data.toList := by rw [ByteArray.toList_eq]
end Go.Proofs.Ytldjfonpegffiaa.Q

namespace Go.Proofs.Ytldjfonpegffiaa.Pure
open Go.RowKit
open Go.RowKit Go.Proofs.Ytldjfonpegffiaa.Q Go.Proofs.YtldjfonpegffiaaW.PrintWords Go.Proofs.YtldjfonpegffiaaW.PrintLast Go.Proofs.YtldjfonpegffiaaW.PrintMore
set_option linter.unusedVariables false
set_option linter.unusedSimpArgs false
def heads : List ByteArray := [⟨#[]⟩, ⟨#[97]⟩, ⟨#[97, 98]⟩, ⟨#[0]⟩, ⟨#[97, 0]⟩, ⟨#[97, 255]⟩, ⟨#[255]⟩, ⟨#[255, 255]⟩, ⟨#[97, 255, 255]⟩, ⟨#[254]⟩]
def tails : List ByteArray := [⟨#[]⟩, ⟨#[]⟩, ⟨#[98]⟩, ⟨#[255]⟩]
theorem draw_key (l : List Int) (hl : (l.length : Int) ≤ 1048576) (hb : ∀ y ∈ l, (Lit.int .u8 y).wf = true) : ∃ a ∈ heads, ∃ b ∈ tails, ∀ k, spec_DrawKeyAbove.f (k + 1) l = some (a ++ b) := by
  obtain ⟨rb, ho, hok⟩ := open_some l hl hb
  obtain ⟨a, ha, hoka, hma⟩ := of_some hok (by omega) 0 heads (by decide) (by decide)
  obtain ⟨b, hb2, hokb, hmb⟩ := of_some hoka (by omega) 0 tails (by decide) (by decide)
  refine ⟨a, hma, b, hmb, fun k => ?_⟩
  obtain ⟨a', ha', hoka', _⟩ := of_some hok (by omega) k heads (by decide) (by decide)
  obtain ⟨b', hb', _, _⟩ := of_some hoka (by omega) k tails (by decide) (by decide)
  have m1 : ∀ (p : Int) (q : List ByteArray) (j : Nat) (r : ByteArray × Int), spec_l1Rd_of.f (0 + 1) rb p q = some r → spec_l1Rd_of.f (j + 1) rb p q = some r := fun p q j r hr => by
    induction j with
    | zero => exact hr
    | succ j ih => exact spec_l1Rd_of.mono rb p q (j + 1) _ ih
  have sa : a.size ≤ 10 := (by decide +kernel : ∀ x ∈ heads, x.size ≤ 10) a hma
  have sb : b.size ≤ 10 := (by decide +kernel : ∀ x ∈ tails, x.size ≤ 10) b hmb
  unfold spec_DrawKeyAbove.f
  rw [ho]
  simp only [Option.bind_some]
  have e1 := m1 0 heads k _ ha
  have e2 := m1 (0 + 1) tails k _ hb2
  unfold heads at e1
  unfold tails at e2
  rw [e1]
  simp only [Option.bind_some]
  rw [e2]
  simp only [Option.bind_some]
  rw [if_pos (by omega)]
theorem above_key : ∀ a ∈ heads, ∀ b ∈ tails, ∃ x, impl_KeyAbove.f (a ++ b) = some x ∧ spec_KeyAbove.f 64 (a ++ b) = some x := by
  have h : ∀ a ∈ heads, ∀ b ∈ tails, (impl_KeyAbove.f (a ++ b)).isSome = true ∧ (impl_KeyAbove.f (a ++ b)).map (fun x => x.data.toList) = (spec_KeyAbove.f 64 (a ++ b)).map (fun x => x.data.toList) := by decide +kernel
  intro a ha b hb
  obtain ⟨h1, h2⟩ := h a ha b hb
  obtain ⟨x, hx⟩ := Option.isSome_iff_exists.1 h1
  rw [hx] at h2
  cases hs : spec_KeyAbove.f 64 (a ++ b) with
  | none => rw [hs] at h2; cases h2
  | some y =>
    rw [hs] at h2
    have : x = y := ba_ext (Option.some.inj h2)
    exact ⟨x, hx, by rw [this]⟩
/-- What the law asks of two texts, and of what lies above the one. -/
def asks (s t x y : ByteArray) : Option Bool := (if x.data.toList = y.data.toList then (if x.data.toList = ([] : List UInt8) then (if (t.size : Int) ≥ (s.size : Int) then (if 0 ≤ (s.size : Int) then (if (s.size : Int) ≤ (t.size : Int) then (if ((Op.bytesLess t.data.toList s.data.toList) = true) then (if (((t.extract 0 ((s.size : Int) : Int).toNat).data.toList == s.data.toList) == false) = true then (some true) else (some (!((t.extract 0 ((s.size : Int) : Int).toNat).data.toList == s.data.toList)))) else (if (((t.extract 0 ((s.size : Int) : Int).toNat).data.toList == s.data.toList) == true) = true then (some true) else (some (!((t.extract 0 ((s.size : Int) : Int).toNat).data.toList == s.data.toList))))) else (none)) else (none)) else (if ((Op.bytesLess t.data.toList s.data.toList) = true) then (if (false == false) = true then (some true) else (some (!false))) else (if (false == true) = true then (some true) else (some (!false))))) else (if s.size + t.size ≤ 9223372036854775807 then (if ((Op.bytesLess ((s ++ t).data.toList) x.data.toList) = true) then (if ((Op.bytesLess s.data.toList x.data.toList) = true) then (if (t.size : Int) ≥ (s.size : Int) then (if 0 ≤ (s.size : Int) then (if (s.size : Int) ≤ (t.size : Int) then (if ((Op.bytesLess t.data.toList s.data.toList) = true) then (if (((t.extract 0 ((s.size : Int) : Int).toNat).data.toList == s.data.toList) == false) = true then (some true) else (some false)) else (if (((t.extract 0 ((s.size : Int) : Int).toNat).data.toList == s.data.toList) == (Op.bytesLess t.data.toList x.data.toList)) = true then (some true) else (some false))) else (none)) else (none)) else (if ((Op.bytesLess t.data.toList s.data.toList) = true) then (if (false == false) = true then (some true) else (some false)) else (if (false == (Op.bytesLess t.data.toList x.data.toList)) = true then (some true) else (some false)))) else (some false)) else (some false)) else (none))) else (some false))
theorem asks_all : ∀ a ∈ heads, ∀ b ∈ tails, ∀ c ∈ heads, ∀ d ∈ tails, ((impl_KeyAbove.f (a ++ b)).bind fun x => asks (a ++ b) (c ++ d) x x) = some true := by decide +kernel
theorem FnKeyAbove : laws_FnKeyAbove.Pure := by
  intro x0 x1 h0 h1
  refine ⟨65, ?_⟩
  unfold laws_FnKeyAbove.f
  by_cases hl0 : (x0.length : Int) > 1048576
  · rw [if_pos hl0]; rfl
  rw [if_neg hl0]
  by_cases hl1 : (x1.length : Int) > 1048576
  · rw [decide_eq_true hl1]; rfl
  rw [decide_eq_false hl1]
  obtain ⟨a, ha, b, hb, hs⟩ := draw_key x0 (by omega) h0.2
  obtain ⟨c, hc, d, hd, ht⟩ := draw_key x1 (by omega) h1.2
  obtain ⟨x, hx, hy⟩ := above_key a ha b hb
  have hk := asks_all a ha b hb c hc d hd
  rw [hx, Option.bind_some] at hk
  simp only [laws_FnKeyAbove.j0]
  rw [if_neg (by decide), hs 63, Option.bind_some, ht 63, Option.bind_some, hx, Option.bind_some, hy, Option.bind_some]
  unfold asks at hk
  rw [if_pos rfl] at hk
  simp only [ba_toList, if_true]
  exact hk
end Go.Proofs.Ytldjfonpegffiaa.Pure

namespace Go.Proofs.Ytldjfonpegffiaa.fnKeyAbove
open Go.ChangeShapes Go.WideShapes Go.ChangeAt Go.RowKit
open Go.ChangeMaps (open_string shut_string)
open Go.RowKit Go.Proofs.Ytldjfonpegffiaa.Q Go.Proofs.YtldjfonpegffiaaW.PrintWords Go.Proofs.YtldjfonpegffiaaW.PrintLast Go.Proofs.YtldjfonpegffiaaW.PrintMore
set_option linter.unusedVariables false
theorem walk (P : laws_FnKeyAbove.Pure) (v0 : Value) (x0 : List Int) (v1 : Value) (x1 : List Int) (w : World) (h0 : ∃ B c, v0 = .slice B x0.length c ∧ x0.length ≤ c ∧ Kd.C (Kd.int .u8) w B x0.length x0) (h1 : ∃ B c, v1 = .slice B x1.length c ∧ x1.length ≤ c ∧ Kd.C (Kd.int .u8) w B x1.length x1) (w0 : (fun l => l.length ≤ maxLen ∧ ∀ y ∈ l, (fun n => (Lit.int .u8 n).wf = true) y) x0) (w1 : (fun l => l.length ≤ maxLen ∧ ∀ y ∈ l, (fun n => (Lit.int .u8 n).wf = true) y) x1) :
    Calls Try.prog 4 #[v0, v1] w fun e w' => e = .returned (.bool true) ∧ Below w.heap.size w w' := by
  obtain ⟨k, h⟩ := P x0 x1 w0 w1
  obtain ⟨B0, c0, rfl, hl0, hc0⟩ := h0
  obtain ⟨B1, c1, rfl, hl1, hc1⟩ := h1
  refine (laws_FnKeyAbove.calls k _ _ x0 _ _ x1 true w hc0 hl0 hc1 hl1 rfl h).mono ?_
  rintro e w' ⟨rfl, hd⟩
  exact ⟨rfl, hd⟩
theorem own : ownKnob Try.prog.godebug = none := by kernel_rfl
theorem laidOut : laidOutB Try.prog = true := by kernel_rfl
set_option maxRecDepth 100000 in
theorem lifted (os : Os) (started : os.Started) (H : Type) (enc : TypeId × Value → H) :
    ReturnsInHanded {} Try.checked os 4 .any (Rows.fnKeyAboveSpec.pre6 enc Try.prog Try.f4 Rows.fnKeyAboveRow.domain false) (Rows.fnKeyAboveSpec.post enc Try.prog Try.f4 false true false false) := by
  refine returnsInHanded_of_change_sized (C := Try.checked) own started (by kernel_rfl) Try.func4
    (ChangeSpec.witness6 (enc := enc) (C := Try.checked) false ⟨#[], #[.slice none 0 0, .slice none 0 0], []⟩ 12 (by kernel_rfl) (by kernel_rfl) (by kernel_rfl) (by kernel_rfl)) ?_
  intro W base args ds gs before hval0 hW hcnd hsz0 _
  have hval : ∀ (j : Nat) t v, Try.f4.params[j]? = some t → args[j]? = some v → Value.okWide Try.prog W .any base t v := hval0
  have hW' := hW
  obtain ⟨p, q, hA0, hV, rfl, hfz, hnd⟩ := hW
  have hA : DataW.TrodAll enc Try.prog W 0 (fun _ => true) true Try.f4.params.toList args.toList ds p := hA0
  rw [Try.params4] at hA hval
  obtain ⟨v0, vs0, d0, ds0, p0, q0, hargs, rfl, rfl, h0, r0⟩ := trodAll_cons hA
  obtain ⟨v1, vs1, d1, ds1, p1, q1, rfl, rfl, rfl, h1, r1⟩ := trodAll_cons r0
  obtain ⟨rfl, rfl, rfl⟩ := trodAll_nil r1
  obtain rfl : args = #[v0, v1] := by cases args; simp_all
  obtain ⟨rfl, rfl⟩ := trodVars_none hV
  have k0 := h0
  have lt0 : ∀ x ∈ p0, x.block < W.heap.size := by obtain ⟨m, hm⟩ := k0; exact DataW.trod_lt m _ _ _ hm
  obtain ⟨x0, hx0, w0⟩ := opens_arg_slice Try.underlying24 (opens_slice Try.underlying24 (opens_int Try.underlying5) (by kernel_rfl)) (hval 0 24 v0 rfl rfl) h0
  have k1 := h1
  have lt1 : ∀ x ∈ p1, x.block < W.heap.size := by obtain ⟨m, hm⟩ := k1; exact DataW.trod_lt m _ _ _ hm
  obtain ⟨x1, hx1, w1⟩ := opens_arg_slice Try.underlying24 (opens_slice Try.underlying24 (opens_int Try.underlying5) (by kernel_rfl)) (hval 1 24 v1 rfl rfl) h1
  clear hA0 hval0 hsz0
  refine (walk Pure.FnKeyAbove _ x0 _ x1 W hx0 hx1 w0 w1).mono fun e W' ⟨he, bel⟩ => ?_
  subst he
  exact ⟨_, rfl, _, _, _, [], _, [], hW', trodAll_mk1 (shut_bool Try.underlying4 _), (trodAll_cons_mk (Below.trod laidOut (by kernel_rfl) (of_decide_eq_true (by kernel_rfl)) k0 bel lt0) (trodAll_cons_mk (Below.trod laidOut (by kernel_rfl) (of_decide_eq_true (by kernel_rfl)) k1 bel lt1) trodAll_mk0)), rfl, bel.frame _, fun h => by cases h⟩
theorem over : Rows.fnKeyAboveRow.holds Try.pinned (OpenSpec.ofChange Rows.fnKeyAboveSpec) :=
  OpenClaim.holds_of_wide 4 Try.f4 rfl rfl rfl rfl rfl rfl rfl ⟨rfl, rfl, rfl, rfl, rfl⟩ rfl rfl rfl rfl rfl (by kernel_rfl) Try.func4 (by kernel_rfl)
    (of_decide_eq_true (by kernel_rfl)) (by unfold Func.isWrapper; first | (rw [if_pos (by decide +kernel)]; kernel_rfl) | (rw [if_neg (by decide +kernel)]; exact ⟨rfl, rfl⟩))
    (fun os started H enc _ => lifted os started H enc)
theorem proved : Rows.FnKeyAboveSaid := over
#print axioms proved
end Go.Proofs.Ytldjfonpegffiaa.fnKeyAbove
namespace Go.Proofs.Ytldjfonpegffiaa
/-- The row, under a short name, for the claim. -/
theorem fnKeyAbove_holds : Rows.FnKeyAboveSaid := fnKeyAbove.proved
end Go.Proofs.Ytldjfonpegffiaa
