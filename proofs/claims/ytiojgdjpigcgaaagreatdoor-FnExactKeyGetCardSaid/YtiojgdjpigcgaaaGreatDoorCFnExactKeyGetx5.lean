/- A part of the proof that the law FnExactKeyGet answers true for every input: contracts of functions that it reaches, or its plain law. -/
import Derived.Lib.Strings
import Derived.Lib.TrimByte
import Derived.Lib.Bytealg
import Derived.Test.YtiojgdjpigcgaaaGreatDoorCFnExactKeyGetx0
import Derived.Test.YtiojgdjpigcgaaaGreatDoorCFnExactKeyGetx1
import Derived.Test.YtiojgdjpigcgaaaGreatDoorCFnExactKeyGetx2
import Derived.Test.YtiojgdjpigcgaaaGreatDoorCFnExactKeyGetx3
import Derived.Test.YtiojgdjpigcgaaaGreatDoorCFnExactKeyGetx4
section
/-! Rf, decimals: figures; what is in order. -/
set_option autoImplicit false
set_option linter.unusedSimpArgs false
namespace Go.Proofs.YtiojgdjpigcgaaaGreatDoor.R
open Go.Rf
theorem toIntS_ev (l : List Int) (h : l.length ≤ 1048576) : Ev (fun k => F152 k l) ((l, ()), ((), ())) := by
  refine Ev.step 2 (fun k => F152_eq k l) ?_
  have c : (decide (0 ≤ (l.length : Int)) && decide ((l.length : Int) ≤ (l.length : Int)) && decide ((l.length : Int) ≤ (17592186044416 : Int))) = true := by simp; omega
  simp only [c, if_true]
  have := copy_loop (L := fun k x3 i => F152c3 k l x3 i) (x0 := l) (g := fun _ y => some y) (f := id) (fin := fun x => ((x, ()), ((), ()))) (h := id) (by omega) (fun k x3 i => F152c3_eq k l x3 i) (fun y _ => Ev.now y)
    (List.replicate (l.length : Int).toNat (0 : Int)) (by simp)
  simpa using this
theorem eqIntS_ev (l : List Int) (h : l.length ≤ 1048576) : Ev (fun k => F143 k l l) ((true, ()), ((), (), ())) := by
  refine Ev.step 2 (fun k => F143_eq k l l) ?_
  simp only [bne_self_eq_false, Bool.false_eq_true, if_false]
  exact same_loop (L := fun k i => F143c4 k l l i) (x0 := l) (g := fun _ y1 y2 => some (y1 == y2)) (p := id) (no := ((false, ()), ((), (), ()))) (h := fun _ => true) (by omega) (fun k i => F143c4_eq k l l i) (fun y _ => by
    simp only [beq_self_eq_true]
    exact ⟨Ev.now _, rfl⟩)
theorem szIntS_ev (l : List Int) (hlen : l.length ≤ 9223372036854775807) (b : Int) (h0 : 0 ≤ b) (hb : b ≤ 1048576) : ∃ r, Ev (fun k => F149 k l b) r ∧ (r.1.1 < 0 ∨ (0 ≤ r.1.1 ∧ r.1.1 ≤ b ∧ l.length ≤ 1048576)) := by
  have st : ∀ {r}, Ev (fun _ => if decide (IntKind.i64.wrap (b - (l.length : Int)) < (0 : Int)) = true then some (((-1 : Int), ()), ((), (), ())) else some (((IntKind.i64.wrap (b - (l.length : Int))), ()), ((), (), ()))) r → Ev (fun k => F149 k l b) r := fun h => Ev.step 2 (fun k => F149_eq k l b) h
  rw [wrap64 (by omega) (by omega)] at st
  by_cases hn : b - (l.length : Int) < 0
  · refine ⟨(((-1 : Int), ()), ((), (), ())), st ?_, .inl (by decide : (-1 : Int) < 0)⟩
    simp only [hn, decide_true, if_true]
    exact Ev.now _
  · refine ⟨(((b - (l.length : Int)), ()), ((), (), ())), st ?_, .inr ?_⟩
    · have : decide (b - (l.length : Int) < 0) = false := by simp; omega
      simp only [this, Bool.false_eq_true, if_false]
      exact Ev.now _
    · exact ⟨by show 0 ≤ b - (l.length : Int); omega, by show b - (l.length : Int) ≤ b; omega, by omega⟩
theorem l1In_ev (n lo hi : Int) : Ev (fun k => F77 k n lo hi) ((within n lo hi, ()), ((), (), (), ())) := by
  refine Ev.step 2 (fun k => F77_eq k n lo hi) ?_
  unfold within
  cases decide (n ≥ lo) with
  | true => exact Ev.now _
  | false => exact Ev.now _
theorem in_ev (n lo hi : Int) : Ev (fun k => F40 k n lo hi) ((within n lo hi, ()), ((), (), (), ())) := by
  refine Ev.step 2 (fun k => F40_eq k n lo hi) ?_
  unfold within
  cases decide (n ≥ lo) with
  | true => exact Ev.now _
  | false => exact Ev.now _
/-! ### figures -/
theorem l1Dec_ev : ∀ n : Nat, n ≤ 1000000000000000000 → Ev (fun k => F202 k (n : Int)) ((⟨(Lib.decDigits n).toArray⟩, ()), ((), ())) := by
  intro n
  induction n using Nat.strongRecOn with
  | _ n ih =>
    intro hn
    have c1 : decide ((n : Int) < (-9223372036854775807 : Int)) = false := decide_eq_false (by omega)
    have c2 : decide ((n : Int) < 0) = false := decide_eq_false (by omega)
    refine Ev.step 2 (fun k => F202_eq k n) ?_
    simp only [c1, c2, Bool.false_eq_true, if_false]
    by_cases h : n < 10
    · have c3 : decide ((n : Int) < 10) = true := decide_eq_true (by omega)
      rw [Lib.decDigits, dif_pos h]
      simp only [c3, if_true, bytesOf_digit h]
      exact Ev.now _
    · have c3 : decide ((n : Int) < 10) = false := decide_eq_false (by omega)
      have e1 : IntKind.i64.wrap ((n : Int).tdiv 10) = ((n / 10 : Nat) : Int) := by
        rw [Int.tdiv_eq_ediv_of_nonneg (by omega), wrap64 (by omega) (by omega)]
        omega
      have e2 : (n : Int).tmod 10 = ((n % 10 : Nat) : Int) := by
        rw [Int.tmod_eq_emod_of_nonneg (by omega)]
        omega
      have hl := decDigits_len 18 (n / 10) (by omega)
      rw [Lib.decDigits, dif_neg h]
      simp only [c3, Bool.false_eq_true, if_false, e1, e2, bytesOf_digit (show n % 10 < 10 by omega)]
      refine Ev.bind (ih (n / 10) (by omega) (by omega)) ?_
      have hb : Nat.ble ((Lib.decDigits (n / 10)).length + [UInt8.ofNat (48 + n % 10)].length) 9223372036854775807 = true := Nat.ble_eq_true_of_le (by simp; omega)
      simp only [bytes_size, hb, if_true, bytes_append]
      exact Ev.now _
theorem l1Wide_ev {d : Int} (h : 0 ≤ d ∧ d ≤ 9999) : Ev (fun k => F203 k d 4) ((⟨(fig4 d).toArray⟩, ()), ((), (), ())) := by
  obtain ⟨n, rfl⟩ : ∃ n : Nat, d = (n : Int) := ⟨d.toNat, by omega⟩
  have hl := itoa_len4 h
  refine Ev.step 2 (fun k => F203_eq k _ _) (Ev.bind (l1Dec_ev n (by omega)) ?_)
  have key : ∀ (m : Nat) (x : List UInt8), x.length + m = 4 ∨ (m = 0 ∧ 4 ≤ x.length) → Ev (fun k => F203c2 k 4 ⟨x.toArray⟩) ((⟨(Lib.repeatL [48] m ++ x).toArray⟩, ()), ((), (), ())) := by
    intro m
    induction m with
    | zero =>
      intro x hx
      have c : decide ((x.length : Int) < 4) = false := decide_eq_false (by omega)
      refine Ev.step 1 (fun k => F203c2_eq k _ _) ?_
      simp only [bytes_size, c, Bool.false_eq_true, if_false]
      exact Ev.now _
    | succ m ih =>
      intro x hx
      have c : decide ((x.length : Int) < 4) = true := decide_eq_true (by omega)
      have hb : Nat.ble ([(48 : UInt8)].length + x.length) 9223372036854775807 = true := Nat.ble_eq_true_of_le (by simp; omega)
      refine Ev.step 1 (fun k => F203c2_eq k _ _) ?_
      have e : (⟨#[48]⟩ : ByteArray) = ⟨[(48 : UInt8)].toArray⟩ := rfl
      simp only [e, bytes_size, c, if_true, hb, bytes_append]
      have := ih ([48] ++ x) (by simp; omega)
      have e2 : Lib.repeatL [48] m ++ ([48] ++ x) = Lib.repeatL [48] (m + 1) ++ x := by
        rw [Lib.repeatL_add, Lib.repeatL_one, List.append_assoc]
      rw [e2] at this
      exact this
  have := key (4 - (Lib.itoa (n : Int)).length) (Lib.decDigits n) (by rw [itoa_nat] at hl ⊢; omega)
  unfold fig4
  rw [itoa_nat] at this ⊢
  exact this
theorem l1Figures_ev {l : List Int} (hr : InR l) (hl : l.length ≤ 1000000) : Ev (fun k => F161 k l) ((textL l, ()), ((), ())) := by
  refine Ev.step 2 (fun k => F161_eq k l) ?_
  rcases Nat.eq_zero_or_pos l.length with h0 | h0
  · obtain rfl := List.eq_nil_of_length_eq_zero h0
    exact Ev.now _
  · obtain ⟨n, hn⟩ : ∃ n, l.length = n + 1 := ⟨l.length - 1, by omega⟩
    have c : ((l.length : Int) == 0) = false := len0_false h0
    have hlt : n < l.length := by omega
    have rn := hr.at hlt
    obtain ⟨d, hd⟩ : ∃ d : Nat, l.getD n 0 = (d : Int) := ⟨(l.getD n 0).toNat, by omega⟩
    simp only [c, Bool.false_eq_true, if_false, pred_len hn (by omega), ge0, if_true, Int.toNat_natCast, getI_of hlt, Option.bind_some, hd]
    refine Ev.bind (l1Dec_ev d (by omega)) ?_
    have w : IntKind.i64.wrap ((l.length : Int) - 2) = (n : Int) - 1 := by rw [wrap64 (by omega) (by omega)]; omega
    rw [w, textL_pos (by intro e; subst e; simp at h0)]
    have key : ∀ m, m ≤ n → Ev (fun k => F161c5 k l ⟨(figs (l.drop m)).toArray⟩ ((m : Int) - 1)) ((⟨(figs l).toArray⟩, ()), ((), ())) := by
      intro m
      induction m with
      | zero =>
        intro _
        exact Ev.step 1 (fun k => F161c5_eq k _ _ _) (Ev.now _)
      | succ m ih =>
        intro hm
        have e : ((m + 1 : Nat) : Int) - 1 = (m : Int) := by omega
        have hge : decide ((m : Int) ≥ 0) = true := by simp
        have hml : m < l.length := by omega
        have h1 := figs_len (l := l.drop (m + 1)) (fun d hd => hr d (List.mem_of_mem_drop hd))
        have h2 := fig4_len (hr.at hml)
        have hb : Nat.ble ((figs (l.drop (m + 1))).length + (fig4 (l.getD m 0)).length) 9223372036854775807 = true := Nat.ble_eq_true_of_le (by rw [List.length_drop] at h1; omega)
        rw [e]
        refine Ev.step 1 (fun k => F161c5_eq k _ _ _) ?_
        simp only [hge, if_true, ge0, Int.toNat_natCast, getI_of hml, Option.bind_some]
        refine Ev.bind (l1Wide_ev (hr.at hml)) ?_
        simp only [bytes_size, hb, if_true, bytes_append, ← figs_drop (show m + 1 < l.length by omega)]
        rw [wrap64 (by omega) (by omega)]
        exact ih (by omega)
    have := key n (Nat.le_refl _)
    rw [figs_last hn, hd, itoa_nat] at this
    exact this
theorem l1Long_ev {l : List Int} (hr : InR l) (hl : l.length ≤ 1000000) : Ev (fun k => F124 k l) ((long l, ()), ((), ())) := by
  refine Ev.step 2 (fun k => F124_eq k l) ?_
  unfold long
  by_cases h : l.length = 0
  · have c : ((l.length : Int) == 0) = true := by simp [h]
    simp only [c, if_true, h]
    exact Ev.now _
  · have c : ((l.length : Int) == 0) = false := len0_false (Nat.pos_of_ne_zero h)
    simp only [c, h, Bool.false_eq_true, if_false]
    exact Ev.bind (l1Figures_ev hr hl) (Ev.now _)
theorem text_ev {l : List Int} (hr : InR l) (hl : l.length ≤ 1000000) : Ev (fun k => F129 k l) ((textL l, ()), ((), ())) := by
  refine Ev.step 1 (fun k => F129_eq k l) ?_
  have : textR (l, ()) = some ((textL l, ()), ((), ())) := if_pos (limbsOk_of hr hl)
  rw [this]
  exact Ev.now _
theorem digits_ev {l : List Int} (hr : InR l) (hl : l.length ≤ 1000000) : Ev (fun k => F117 k l) ((long l, ()), ((), ())) := by
  refine Ev.step 2 (fun k => F117_eq k l) ?_
  unfold long
  by_cases h : l.length = 0
  · have c : ((l.length : Int) == 0) = true := by simp [h]
    simp only [c, if_true, h]
    exact Ev.now _
  · have c : ((l.length : Int) == 0) = false := len0_false (Nat.pos_of_ne_zero h)
    simp only [c, h, Bool.false_eq_true, if_false]
    exact Ev.bind (text_ev hr hl) (Ev.now _)
/-! ### in order -/
theorem idx_ev (l : List Int) (h : l.length ≤ 1048576) : ∃ r, Ev (fun k => F156106 k l) r ∧ decide (r.1.1 ≥ (0 : Int)) = !rangeOk l := by
  obtain ⟨r, h1, h2⟩ := find_loop (L := fun k i => F156106c2 k l (l.length : Int) i) (n := l.length) (no := fun i => (((i : Int), ()), ((), (), ()))) (yes := (((-1 : Int), ()), ((), (), ()))) (c := fun i => within (l.getD i 0) 0 9999) (fun i hi hc => by
      refine Ev.step 1 (fun k => F156106c2_eq k l _ i) ?_
      simp only [lt_true hi, ge0, if_true, Int.toNat_natCast, getI_of hi, Option.bind_some]
      refine Ev.bind (Ev.step 2 (fun k => F155_eq k _) (Ev.bind (in_ev _ _ _) (Ev.now _))) ?_
      simp only [hc, Bool.not_false, if_true]
      exact Ev.now _) (fun i hi hc r hr => by
      refine Ev.step 1 (fun k => F156106c2_eq k l _ i) ?_
      simp only [lt_true hi, ge0, if_true, Int.toNat_natCast, getI_of hi, Option.bind_some]
      refine Ev.bind (Ev.step 2 (fun k => F155_eq k _) (Ev.bind (in_ev _ _ _) (Ev.now _))) ?_
      simp only [hc, Bool.not_true, Bool.false_eq_true, if_false]
      rw [wrap_succ (by omega)]
      exact hr) (by
      refine Ev.step 1 (fun k => F156106c2_eq k l _ l.length) ?_
      simp only [lt_false (Nat.le_refl l.length), Bool.false_eq_true, if_false]
      exact Ev.now _)
  refine ⟨r, Ev.step 2 (fun k => F156106_eq k l) h1, ?_⟩
  unfold rangeOk
  rcases h2 with ⟨h2, rfl⟩ | ⟨h2, i, _, rfl⟩
  · rw [h2]; rfl
  · rw [h2]; simp
theorem has_ev (l : List Int) (h : l.length ≤ 1048576) : Ev (fun k => F156058 k l) ((!rangeOk l, ()), ((), (), ())) := by
  obtain ⟨r, h1, h2⟩ := idx_ev l h
  refine Ev.step 2 (fun k => F156058_eq k l) (Ev.bind h1 ?_)
  simp only [h2]
  exact Ev.now _
theorem BigOk_ev (neg : Bool) (l : List Int) (h : l.length ≤ 1048576) : Ev (fun k => F116 k neg l) ((bOk neg l, ()), (((), (), ()), ())) := by
  refine Ev.step 2 (fun k => F116_eq k neg l) ?_
  unfold bOk lastOk
  by_cases h16 : l.length ≤ 16
  · have c16 : decide ((l.length : Int) ≤ 16) = true := decide_eq_true (by omega)
    rcases Nat.eq_zero_or_pos l.length with h0 | h0
    · have c0 : ((l.length : Int) == 0) = true := by simp [h0]
      have cg : decide ((l.length : Int) > 0) = false := by simp [h0]
      simp only [c16, h16, c0, cg, h0, decide_true, if_true, Bool.true_and]
      cases neg with
      | true =>
        simp only [Bool.not_true, Bool.false_eq_true, if_false, Bool.and_false]
        exact Ev.now _
      | false =>
        simp only [Bool.not_false, if_true, Bool.and_true]
        refine Ev.bind (has_ev l h) ?_
        simp only [Bool.not_not]
        exact Ev.now _
    · obtain ⟨n, hn⟩ : ∃ n, l.length = n + 1 := ⟨l.length - 1, by omega⟩
      have c0 : ((l.length : Int) == 0) = false := len0_false h0
      have hne : ¬ l.length = 0 := by omega
      have hlt : n < l.length := by omega
      have e : l.length - 1 = n := by omega
      simp only [c16, h16, c0, hne, e, gt_true h0, pred_len hn (by omega), ge0, decide_true, if_true, Bool.true_and, Bool.false_eq_true, if_false, Int.toNat_natCast, getI_of hlt, Option.bind_some]
      cases hz : (l.getD n 0 != 0) with
      | true =>
        simp only [if_true, Bool.and_true]
        refine Ev.bind (has_ev l h) ?_
        simp only [Bool.not_not]
        exact Ev.now _
      | false =>
        simp only [Bool.false_eq_true, if_false, Bool.and_false]
        exact Ev.now _
  · have c16 : decide ((l.length : Int) ≤ 16) = false := decide_eq_false (by omega)
    simp only [c16, h16, decide_false, Bool.false_and, Bool.false_eq_true, if_false]
    exact Ev.now _
theorem l1Ok_ev (neg : Bool) (l : List Int) (h : l.length ≤ 1048576) : Ev (fun k => F123 k neg l) ((bOk neg l, ()), (((), (), ()), ())) := by
  refine Ev.step 2 (fun k => F123_eq k neg l) ?_
  by_cases h16 : l.length ≤ 16
  · have c16 : decide ((l.length : Int) > 16) = false := decide_eq_false (by omega)
    have loop : ∀ {q : Bool}, (l.length = 0 → q = true) → (∀ n, l.length = n + 1 → q = (l.getD n 0 != 0)) → Ev (fun k => F123c4 k neg l 0) ((rangeOk l && q, ()), (((), (), ()), ())) := by
      intro q q0 q1
      have := all_loop' (L := fun k i => F123c4 k neg l i) (n := l.length) (c := fun i => within (l.getD i 0) 0 9999) (no := ((false, ()), (((), (), ()), ()))) (yes := ((q, ()), (((), (), ()), ()))) (fun i hi hc => by
        refine Ev.step 1 (fun k => F123c4_eq k _ _ _) ?_
        simp only [lt_true hi, ge0, if_true, Int.toNat_natCast, getI_of hi, Option.bind_some]
        refine Ev.bind (l1In_ev _ _ _) ?_
        simp only [hc, Bool.not_false, if_true]
        exact Ev.now _) (fun i hi hc r hr => by
        refine Ev.step 1 (fun k => F123c4_eq k _ _ _) ?_
        simp only [lt_true hi, ge0, if_true, Int.toNat_natCast, getI_of hi, Option.bind_some]
        refine Ev.bind (l1In_ev _ _ _) ?_
        simp only [hc, Bool.not_true, Bool.false_eq_true, if_false]
        rw [wrap_succ (by omega)]
        exact hr) (fun _ => by
        refine Ev.step 1 (fun k => F123c4_eq k _ _ _) ?_
        simp only [lt_false (Nat.le_refl l.length), Bool.false_eq_true, if_false]
        rcases Nat.eq_zero_or_pos l.length with h0 | h0
        · have c0 : ((l.length : Int) == 0) = true := by simp [h0]
          simp only [c0, if_true, q0 h0]
          exact Ev.now _
        · obtain ⟨n, hn⟩ : ∃ n, l.length = n + 1 := ⟨l.length - 1, by omega⟩
          have c0 : ((l.length : Int) == 0) = false := len0_false h0
          have hlt : n < l.length := by omega
          simp only [c0, Bool.false_eq_true, if_false, pred_len hn (by omega), ge0, if_true, Int.toNat_natCast, getI_of hlt, Option.bind_some, q1 n hn]
          exact Ev.now _)
      unfold rangeOk
      cases hall : (List.range l.length).all (fun i => within (l.getD i 0) 0 9999) with
      | true =>
        rw [hall] at this
        simpa using this
      | false =>
        rw [hall] at this
        simpa using this
    unfold bOk lastOk
    simp only [c16, h16, decide_true, Bool.true_and, Bool.false_eq_true, if_false]
    by_cases h0 : l.length = 0
    · have c0 : ((l.length : Int) == 0) = true := by simp [h0]
      cases neg with
      | true =>
        simp only [c0, h0, if_true, Bool.not_true, Bool.and_false]
        exact Ev.now _
      | false =>
        have := loop (q := true) (fun _ => rfl) (fun n hn => by omega)
        simpa only [h0, if_true, Bool.not_false, Bool.false_eq_true, if_false] using this
    · have c0 : ((l.length : Int) == 0) = false := len0_false (Nat.pos_of_ne_zero h0)
      have := loop (q := (l.getD (l.length - 1) 0 != 0)) (fun e => absurd e h0) (fun n hn => by rw [hn]; rfl)
      cases neg with
      | true => simpa only [c0, h0, if_true, Bool.false_eq_true, if_false] using this
      | false => simpa only [h0, Bool.false_eq_true, if_false] using this
  · have c16 : decide ((l.length : Int) > 16) = true := decide_eq_true (by omega)
    unfold bOk
    simp only [c16, h16, decide_false, Bool.false_and, if_true]
    exact Ev.now _
end Go.Proofs.YtiojgdjpigcgaaaGreatDoor.R
end

section
/-! Rf, decimals: compared; the law's helpers. -/
set_option autoImplicit false
namespace Go.Proofs.YtiojgdjpigcgaaaGreatDoor.R
open Go.Rf
theorem DecOk_ev (neg : Bool) (l : List Int) (s : Int) (h : l.length ≤ 1048576) : Ev (fun k => F71 k neg l s) ((decOk neg l s, ()), (((), (), (), ()), ())) := by
  refine Ev.step 2 (fun k => F71_eq k neg l s) (Ev.bind (BigOk_ev neg l h) ?_)
  unfold decOk
  cases hb : bOk neg l with
  | false => exact Ev.now _
  | true =>
    obtain ⟨h16, hr, _, _⟩ := bOk_of hb
    simp only [if_true, Bool.true_and]
    refine Ev.bind (digits_ev hr (by omega)) ?_
    cases decide (long l ≤ 30) with
    | false => exact Ev.now _
    | true =>
      simp only [if_true, Bool.true_and]
      exact Ev.bind (in_ev _ _ _) (Ev.now _)
theorem l2Ok_ev (neg : Bool) (l : List Int) (s : Int) (h : l.length ≤ 1048576) : Ev (fun k => F79 k neg l s) ((decOk neg l s, ()), (((), (), (), ()), ())) := by
  refine Ev.step 2 (fun k => F79_eq k neg l s) (Ev.bind (l1Ok_ev neg l h) ?_)
  unfold decOk
  cases hb : bOk neg l with
  | false => exact Ev.now _
  | true =>
    obtain ⟨h16, hr, _, _⟩ := bOk_of hb
    simp only [if_true, Bool.true_and]
    refine Ev.bind (l1Long_ev hr (by omega)) ?_
    cases decide (long l ≤ 30) with
    | false => exact Ev.now _
    | true =>
      simp only [if_true, Bool.true_and]
      exact Ev.bind (l1In_ev _ _ _) (Ev.now _)
/-- a decimal in order: its number -/
def num (l : List Int) : Nat := (VI l).toNat
theorem num_spec {l : List Int} (h : InR l) : VI l = (num l : Int) := by
  have := VI_nonneg h
  unfold num
  omega
theorem digs_num {l : List Int} (h : InR l) (t : Trim l) : digs (num l) = l := digs_VI h t
theorem num_pos {neg : Bool} {l : List Int} (h : bOk neg l = true) (hn : neg = true) : 0 < num l := by
  obtain ⟨_, hr, ht, h0⟩ := bOk_of h
  have := VI_pos hr ht (fun e => by have := h0 e; rw [hn] at this; cases this)
  have := num_spec hr
  omega
theorem num_lt {l : List Int} (h : InR l) (hl : l.length ≤ 16) : num l < 10000 ^ 16 := by
  have h1 : VI l < ((10000 ^ l.length : Nat) : Int) := by
    rw [Int.natCast_pow]
    exact VI_lt h
  have h2 := num_spec h
  have h3 : (10000 : Nat) ^ l.length ≤ 10000 ^ 16 := Nat.pow_le_pow_right (by omega) hl
  exact Nat.lt_of_lt_of_le (by omega) h3
theorem at_len {V m : Nat} (hV : V < 10000 ^ 16) (hm : m ≤ 24) : (digs (V * 10 ^ m)).length ≤ 40 := by
  refine digs_len_le ?_
  have h1 : 10 ^ m ≤ 10 ^ 24 := Nat.pow_le_pow_right (by omega) hm
  have h2 : V * 10 ^ m ≤ V * 10 ^ 24 := Nat.mul_le_mul_left V h1
  have h3 : V * 10 ^ 24 < 10000 ^ 16 * 10 ^ 24 := Nat.mul_lt_mul_of_pos_right hV (Nat.pow_pos (by omega))
  have h4 : 10000 ^ 16 * 10 ^ 24 ≤ 10000 ^ 40 := by decide
  omega
/-- a sum with signs -/
def sSum (na : Bool) (A : Nat) (nb : Bool) (B : Nat) : Bool × Nat := if na = nb then (na, A + B) else if B ≤ A then (na, A - B) else (nb, B - A)
theorem cmpI_ge {A B : Nat} : decide (cmpI A B ≥ 0) = decide (B ≤ A) := by
  unfold cmpI
  split
  · rw [decide_eq_false (by omega), decide_eq_false (by omega)]
  · split
    · rw [decide_eq_true (by omega), decide_eq_true (by omega)]
    · rw [decide_eq_true (by omega), decide_eq_true (by omega)]
/-- numbers with signs compared -/
def sCmp (na : Bool) (A : Nat) (nb : Bool) (B : Nat) : Int := if na = nb then if na = true then cmpI B A else cmpI A B else if na = true then -1 else 1
theorem sSum_sCmp {na nb : Bool} {A B : Nat} (ha : na = true → 0 < A) (hb : nb = true → 0 < B) : (if (sSum na A (!nb) B).2 = 0 then 0 else if (sSum na A (!nb) B).1 = true then -1 else 1 : Int) = sCmp na A nb B := by
  unfold sSum sCmp
  cases na with
  | true =>
    have h1 := ha rfl
    cases nb with
    | true =>
      simp only [Bool.not_true, Bool.true_eq_false, if_false, if_true]
      rcases Nat.lt_trichotomy A B with h | h | h
      · rw [if_neg (show ¬ B ≤ A by omega), cmpI_gt h]
        simp only [Bool.false_eq_true, if_false]
        rw [if_neg (by omega)]
      · subst h
        simp [cmpI_eq]
      · rw [if_pos (show B ≤ A by omega), cmpI_lt h]
        simp only [if_true]
        rw [if_neg (by omega)]
    | false =>
      simp only [Bool.not_false, if_true, Bool.true_eq_false, if_false]
      rw [if_neg (by omega)]
  | false =>
    cases nb with
    | true =>
      have h2 := hb rfl
      simp only [Bool.not_true, if_true, Bool.false_eq_true, if_false]
      rw [if_neg (by omega)]
    | false =>
      simp only [Bool.not_false, Bool.false_eq_true, if_false, if_true]
      rcases Nat.lt_trichotomy A B with h | h | h
      · rw [if_neg (show ¬ B ≤ A by omega), cmpI_lt h]
        simp only [if_true]
        rw [if_neg (by omega)]
      · subst h
        simp [cmpI_eq]
      · rw [if_pos (show B ≤ A by omega), cmpI_gt h]
        simp only [Bool.false_eq_true, if_false]
        rw [if_neg (by omega)]
/-- how decimals in order compare -/
def dCmp (n1 : Bool) (l1 : List Int) (s1 : Nat) (n2 : Bool) (l2 : List Int) (s2 : Nat) : Int := sCmp n1 (num l1 * 10 ^ (max s1 s2 - s1)) n2 (num l2 * 10 ^ (max s1 s2 - s2))
section
variable {n1 n2 : Bool} {l1 l2 : List Int} {s1 s2 : Nat}
end
/-! ### the law's helpers -/
theorem toDec_ev (n : Bool) (l : List Int) (s : Int) (h : l.length ≤ 1048576) : Ev (fun k => F67 k n l s) (((n, l, s, ()), ()), (((), (), (), ()), ())) :=
  Ev.step 2 (fun k => F67_eq k n l s) (Ev.bind (Ev.step 2 (fun k => F109_eq k n l) (Ev.bind (toIntS_ev l h) (Ev.now _))) (Ev.now _))
theorem eqDec_ev (n : Bool) (l : List Int) (s : Int) (h : l.length ≤ 1048576) : Ev (fun k => F45 k n l s n l s) ((true, ()), (((), (), (), ()), ((), (), (), ()), ())) := by
  have hb : Ev (fun k => F95 k n l n l) ((true, ()), (((), (), ()), ((), (), ()), ())) := by
    refine Ev.step 2 (fun k => F95_eq k n l n l) ?_
    simp only [beq_self_eq_true, Bool.not_true, Bool.false_eq_true, if_false]
    exact Ev.bind (eqIntS_ev l h) (Ev.now _)
  refine Ev.step 2 (fun k => F45_eq k n l s n l s) (Ev.bind hb ?_)
  simp only [Bool.not_true, Bool.false_eq_true, if_false, bne_self_eq_false]
  exact Ev.now _
theorem szDec_ev (n : Bool) (l : List Int) (s : Int) (hlen : l.length ≤ 9223372036854775807) (b : Int) (h0 : 0 ≤ b) (hb : b ≤ 1048576) : ∃ r, Ev (fun k => F65 k n l s b) r ∧ (r.1.1 < 0 ∨ (0 ≤ r.1.1 ∧ r.1.1 ≤ b ∧ l.length ≤ 1048576)) := by
  obtain ⟨r, h1, h2⟩ := szIntS_ev l hlen b h0 hb
  rcases h2 with h2 | ⟨h2, h3, h4⟩
  · refine ⟨(((-1 : Int), ()), (((), (), (), ()), (), ())), Ev.step 2 (fun k => F65_eq k n l s b) (Ev.bind (Ev.step 2 (fun k => F107_eq k n l b) (Ev.bind h1 (r := (((-1 : Int), ()), (((), (), ()), (), ()))) ?_)) (by
      have c : decide ((-1 : Int) < 0) = true := by decide
      simp only [c, if_true]
      exact Ev.now _)), .inl (by decide : (-1 : Int) < 0)⟩
    simp only [h2, decide_true, if_true]
    exact Ev.now _
  · have hneg : decide (r.1.1 < 0) = false := decide_eq_false (by omega)
    refine ⟨((r.1.1, ()), (((), (), (), ()), (), ())), Ev.step 2 (fun k => F65_eq k n l s b) (Ev.bind (Ev.step 2 (fun k => F107_eq k n l b) (Ev.bind h1 (r := ((r.1.1, ()), (((), (), ()), (), ()))) ?_)) ?_), .inr ⟨h2, h3, h4⟩⟩
    · simp only [hneg, Bool.false_eq_true, if_false]
      exact Ev.now _
    · simp only [hneg, Bool.false_eq_true, if_false]
      exact Ev.now _
end Go.Proofs.YtiojgdjpigcgaaaGreatDoor.R
end

section
/-! Rf, decimals: added; fresh memory. -/
set_option autoImplicit false
set_option linter.unusedSimpArgs false
namespace Go.Proofs.YtiojgdjpigcgaaaGreatDoor.R
open Go.Rf
theorem VI_take_succ' {l : List Int} {i : Nat} : VI (l.take (i + 1)) = VI (l.take i) + l.getD i 0 * 10000 ^ i := by
  rcases Nat.lt_or_ge i l.length with h | h
  · exact VI_take_succ h
  · rw [List.take_of_length_le h, List.take_of_length_le (by omega), List.getD_eq_getElem?_getD, List.getElem?_eq_none h]
    simp
theorem getD0 {l : List Int} (h : InR l) (i : Nat) : 0 ≤ l.getD i 0 ∧ l.getD i 0 ≤ 9999 := by
  rcases Nat.lt_or_ge i l.length with h1 | h1
  · exact h.at h1
  · rw [List.getD_eq_getElem?_getD, List.getElem?_eq_none h1]
    exact ⟨Int.le_refl _, by decide⟩
theorem inrSnoc {l : List Int} {d : Int} (h : InR l) (hd : 0 ≤ d ∧ d ≤ 9999) : InR (l ++ [d]) := fun x hx => by
  rcases List.mem_append.1 hx with hx | hx
  · exact h x hx
  · rw [List.mem_singleton.1 hx]
    exact hd
theorem VI_snoc (l : List Int) (d : Int) : VI (l ++ [d]) = VI l + d * 10000 ^ l.length := by
  rw [VI_append]
  show VI l + 10000 ^ l.length * (d + 10000 * 0) = _
  grind
section
variable {a b : List Int}
theorem l1SubAbs_ev (ha : InR a) (hb : InR b) (tb : Trim b) (la : a.length ≤ 100000) (hle : VI b ≤ VI a) : Ev (fun k => F239 k a b) ((digs (VI a - VI b).toNat, ()), ((), (), ())) := by
  have hlen : b.length ≤ a.length := by
    rcases Nat.lt_or_ge a.length b.length with h | h
    · have := VI_len_lt ha hb tb h
      omega
    · exact h
  have key : ∀ (m i : Nat) (x : List Int) (c : Int), i + m = a.length → x.length = i → VI x - c * 10000 ^ i = VI (a.take i) - VI (b.take i) → InR x → (0 ≤ c ∧ c ≤ 1) → Ev (fun k => F239c4 k a b x c (i : Int)) ((digs (VI a - VI b).toNat, ()), ((), (), ())) := by
    intro m
    induction m with
    | zero =>
      intro i x c hi hx hV hr hc
      have hia : i = a.length := by omega
      subst hia
      rw [List.take_of_length_le (Nat.le_refl _), List.take_of_length_le hlen] at hV
      have hlt := VI_lt hr
      rw [hx] at hlt
      have hc0 : c = 0 := by
        rcases Int.lt_or_le 0 c with h | h
        · exfalso
          have : c = 1 := by omega
          subst this
          omega
        · omega
      subst hc0
      refine Ev.step 1 (fun k => F239c4_eq k _ _ _ _ _) ?_
      simp only [lt_false (Nat.le_refl a.length), Bool.false_eq_true, if_false]
      have := l1Trim_ev hr (by omega)
      have e : VI x = VI a - VI b := by omega
      rw [e] at this
      exact Ev.bind this (Ev.now _)
    | succ m ih =>
      intro i x c hi hx hV hr hc
      have hia : i < a.length := by omega
      have ra := ha.at hia
      have rb := getD0 hb i
      have w1 : IntKind.i64.wrap (a.getD i 0 - b.getD i 0) = a.getD i 0 - b.getD i 0 := wrap64 (by omega) (by omega)
      have w2 : IntKind.i64.wrap (a.getD i 0 - b.getD i 0 - c) = a.getD i 0 - b.getD i 0 - c := wrap64 (by omega) (by omega)
      have w3 : IntKind.i64.wrap (a.getD i 0 - b.getD i 0 - c + 10000) = a.getD i 0 - b.getD i 0 - c + 10000 := wrap64 (by omega) (by omega)
      refine Ev.step 1 (fun k => F239c4_eq k _ _ _ _ _) ?_
      simp only [lt_true hia, ge0, if_true, Int.toNat_natCast, getI_of hia, Option.bind_some]
      refine Ev.bind limb_ev ?_
      simp only [w1, w2, w3]
      by_cases hneg : a.getD i 0 - b.getD i 0 - c < 0
      · simp only [hneg, decide_true, if_true]
        refine Ev.step 1 (fun k => F239c11_eq k _ _ _ _ _ _) ?_
        have hcap : decide (x.length + [a.getD i 0 - b.getD i 0 - c + 10000].length ≤ 17592186044416) = true := decide_eq_true (by simp; omega)
        simp only [hcap, if_true, wrap_succ (show i < 9223372036854775807 by omega)]
        refine ih (i + 1) _ _ (by omega) (by simp; omega) ?_ (inrSnoc hr (by omega)) (by omega)
        rw [VI_snoc, hx, VI_take_succ', VI_take_succ', Int.pow_succ]
        grind
      · simp only [hneg, decide_false, Bool.false_eq_true, if_false]
        refine Ev.step 1 (fun k => F239c11_eq k _ _ _ _ _ _) ?_
        have hcap : decide (x.length + [a.getD i 0 - b.getD i 0 - c].length ≤ 17592186044416) = true := decide_eq_true (by simp; omega)
        simp only [hcap, if_true, wrap_succ (show i < 9223372036854775807 by omega)]
        refine ih (i + 1) _ _ (by omega) (by simp; omega) ?_ (inrSnoc hr (by omega)) (by omega)
        rw [VI_snoc, hx, VI_take_succ', VI_take_succ']
        grind
  exact Ev.step 2 (fun k => F239_eq k a b) (key a.length 0 [] 0 (by omega) rfl (by simp [VI]) InR.nil (by omega))
end
def made (neg : Bool) (n : Nat) (s : Int) : (Bool × List Int × Int × Unit) × Int × Unit := if long (digs n) > 30 then ((false, [], 0, ()), 3, ()) else ((neg && decide (((digs n).length : Int) > 0), digs n, s, ()), 0, ())
theorem clone_int_ev (l : List Int) (h : l.length ≤ 1000000) : Ev (fun k => F140 k l) ((l, ()), ((), ())) := by
  have h1 : Ev (fun k => F179 k l) ((l, ()), ((), ())) := by
    refine Ev.step 2 (fun k => F179_eq k l) ?_
    have hc : decide (([] : List Int).length + l.length ≤ 17592186044416) = true := decide_eq_true (by simp; omega)
    simp only [hc, if_true, List.nil_append]
    cases l with
    | nil =>
      rw [bothK_same]
      exact Ev.now _
    | cons x l =>
      have : emptyL (x :: l) = false := rfl
      rw [this, bothK_false]
      exact Ev.now _
  have h2 : Ev (fun k => F178 k l) ((l, ()), ((), ())) := by
    refine Ev.step 2 (fun k => F178_eq k l) ?_
    simp only [beq_self_eq_true, Bool.and_self, if_true]
    exact Ev.now _
  exact Ev.step 2 (fun k => F140_eq k l) (Ev.bind h1 (Ev.bind h2 (Ev.now _)))
theorem figs_ge : ∀ {l : List Int}, InR l → l ≠ [] → 4 * l.length ≤ (figs l).length + 4
  | [], _, h => absurd rfl h
  | [d], _, _ => by simp
  | d :: e :: l, h, _ => by
    have h1 := figs_ge h.cons.2 (by simp)
    have h2 := fig4_len h.cons.1
    rw [figs, List.length_append, h2, List.length_cons]
    omega
theorem long_small {l : List Int} (h : InR l) (hl : ¬ long l > 30) : l.length ≤ 16 := by
  unfold long at hl
  by_cases h0 : l.length = 0
  · omega
  · rw [if_neg h0, textL_pos (fun e => h0 (by rw [e]; rfl)), bytes_size] at hl
    have := figs_ge h (fun e => h0 (by rw [e]; rfl))
    omega
theorem sSum_lt {na nb : Bool} {A B C : Nat} (ha : A < C) (hb : B < C) : (sSum na A nb B).2 < 2 * C := by
  unfold sSum
  split
  · show A + B < _
    omega
  · split
    · show A - B < _
      omega
    · show B - A < _
      omega
theorem at_lt {V m : Nat} (hV : V < 10000 ^ 16) (hm : m ≤ 24) : V * 10 ^ m < 10000 ^ 40 := by
  have h1 : 10 ^ m ≤ 10 ^ 24 := Nat.pow_le_pow_right (by omega) hm
  have h2 : V * 10 ^ m ≤ V * 10 ^ 24 := Nat.mul_le_mul_left V h1
  have h3 : V * 10 ^ 24 < 10000 ^ 16 * 10 ^ 24 := Nat.mul_lt_mul_of_pos_right hV (Nat.pow_pos (by omega))
  have h4 : 10000 ^ 16 * 10 ^ 24 ≤ 10000 ^ 40 := by decide
  omega
theorem sum_len {na nb : Bool} {A B : Nat} (ha : A < 10000 ^ 40) (hb : B < 10000 ^ 40) : (digs (sSum na A nb B).2).length ≤ 41 := by
  refine digs_len_le ?_
  have h1 := sSum_lt (na := na) (nb := nb) ha hb
  have h2 : 2 * 10000 ^ 40 ≤ 10000 ^ 41 := by
    rw [Nat.pow_succ]
    have : 0 < 10000 ^ 40 := Nat.pow_pos (by omega)
    omega
  omega
section
variable {n1 n2 : Bool} {l1 l2 : List Int} {s1 s2 : Nat}
end
/-! ### marks -/
def marks (b : Int) (l : List Int) : List Int := (List.range l.length).map fun (i : Nat) => b + (i : Int)
theorem marks_len (b : Int) (l : List Int) : (marks b l).length = l.length := by simp [marks]
theorem marks_at {b : Int} {l : List Int} {i : Nat} (h : i < l.length) : (marks b l).getD i 0 = b + i := by
  rw [List.getD_eq_getElem?_getD]
  unfold marks
  rw [List.getElem?_map, List.getElem?_range h]
  rfl
theorem markDec_ev (n : Bool) (l : List Int) (s b : Int) (h : l.length ≤ 1048576) (h0 : 0 ≤ b) (hb : b ≤ 1000000000) : Ev (fun k => F47 k n l s b) ((b + l.length, ()), (((), marks b l, (), ()), (), ())) := by
  have key : ∀ (m i : Nat) (x : List Int), i + m = l.length → x.length = l.length → (∀ j, j < i → x.getD j 0 = b + j) → Ev (fun k => F144c2 k x (b + i) (i : Int)) ((b + l.length, ()), (marks b l, (), ())) := by
    intro m
    induction m with
    | zero =>
      intro i x hi hx hj
      have hil : i = l.length := by omega
      subst hil
      have e : x = marks b l := ext_getD (by rw [marks_len]; exact hx) (fun j hj' => by rw [hj j (by omega), marks_at (by omega)])
      refine Ev.step 1 (fun k => F144c2_eq k _ _ _) ?_
      simp only [lt_false (Nat.le_of_eq hx), Bool.false_eq_true, if_false]
      rw [e]
      exact Ev.now _
    | succ m ih =>
      intro i x hi hx hj
      have hil : i < x.length := by omega
      have w : IntKind.i64.wrap (b + (i : Int) + 1) = b + ((i + 1 : Nat) : Int) := by rw [wrap64 (by omega) (by omega)]; omega
      refine Ev.step 1 (fun k => F144c2_eq k _ _ _) ?_
      simp only [lt_true hil, ge0, Bool.and_self, if_true, Int.toNat_natCast, getI_of hil, Option.bind_some, w, wrap_succ (show i < 9223372036854775807 by omega)]
      refine ih (i + 1) _ (by omega) (by simpa using hx) (fun j hj' => ?_)
      rw [getI_set hil]
      split
      · rename_i e; rw [e]
      · exact hj j (by omega)
  have h1 := key l.length 0 l (by omega) rfl (fun j hj => by omega)
  have e : b + ((0 : Nat) : Int) = b := by omega
  rw [e] at h1
  exact Ev.step 2 (fun k => F47_eq k _ _ _ _) (Ev.bind (Ev.step 2 (fun k => F96_eq k _ _ _) (Ev.bind (Ev.step 2 (fun k => F144_eq k _ _) h1) (Ev.now _))) (Ev.now _))
theorem heldDec_ev (n : Bool) (l : List Int) (s b : Int) (h : l.length ≤ 1048576) (h0 : 0 ≤ b) (hb : b ≤ 1000000000) : Ev (fun k => F48 k n (marks b l) s b) ((b + l.length, ()), (((), (), (), ()), (), ())) := by
  have key : ∀ (m i : Nat), i + m = l.length → Ev (fun k => F145c2 k (marks b l) (b + i) (i : Int)) ((b + l.length, ()), ((), (), ())) := by
    intro m
    induction m with
    | zero =>
      intro i hi
      have hil : i = l.length := by omega
      subst hil
      refine Ev.step 1 (fun k => F145c2_eq k _ _ _) ?_
      simp only [lt_false (Nat.le_of_eq (marks_len b l)), Bool.false_eq_true, if_false]
      exact Ev.now _
    | succ m ih =>
      intro i hi
      have hil : i < (marks b l).length := by rw [marks_len]; omega
      have w : IntKind.i64.wrap (b + (i : Int) + 1) = b + ((i + 1 : Nat) : Int) := by rw [wrap64 (by omega) (by omega)]; omega
      refine Ev.step 1 (fun k => F145c2_eq k _ _ _) ?_
      simp only [lt_true hil, ge0, if_true, Int.toNat_natCast, getI_of hil, Option.bind_some, marks_at (show i < l.length by omega), bne_self_eq_false, Bool.false_eq_true, if_false, w, wrap_succ (show i < 9223372036854775807 by omega)]
      exact ih (i + 1) (by omega)
  have h1 := key l.length 0 (by omega)
  have e : b + ((0 : Nat) : Int) = b := by omega
  rw [e] at h1
  have hneg : decide (b + (l.length : Int) < 0) = false := decide_eq_false (by omega)
  refine Ev.step 2 (fun k => F48_eq k _ _ _ _) (Ev.bind (Ev.step 2 (fun k => F97_eq k _ _ _) (Ev.bind (Ev.step 2 (fun k => F145_eq k _ _) h1) (r := ((b + l.length, ()), (((), (), ()), (), ()))) ?_)) ?_)
  · simp only [hneg, Bool.false_eq_true, if_false]
    exact Ev.now _
  · simp only [hneg, Bool.false_eq_true, if_false]
    exact Ev.now _
end Go.Proofs.YtiojgdjpigcgaaaGreatDoor.R
end

section
/-! Rf: division of limbs: both divisions come to the quotient and the rest. -/
set_option autoImplicit false
set_option linter.unusedSimpArgs false
set_option linter.unusedVariables false
namespace Go.Proofs.YtiojgdjpigcgaaaGreatDoor.R
open Go.Rf
theorem u64_small {x : Int} (h0 : 0 ≤ x) (h1 : x ≤ 9999) : IntKind.u64.wrap x = x := by
  unfold IntKind.wrap
  simp [IntKind.bits, IntKind.signed]
  omega
theorem mid_eq {lo hi : Nat} (h : hi ≤ 10000) (hl : lo ≤ 10000) : IntKind.i64.wrap ((IntKind.i64.wrap ((IntKind.i64.wrap ((lo : Int) + (hi : Int))) + (1 : Int))).tdiv (2 : Int)) = (((lo + hi + 1) / 2 : Nat) : Int) := by
  rw [wrap64 (n := (lo : Int) + (hi : Int)) (by omega) (by omega), wrap64 (n := (lo : Int) + (hi : Int) + 1) (by omega) (by omega), Int.tdiv_eq_ediv_of_nonneg (by omega), wrap64 (by omega) (by omega)]
  omega
theorem mid_eq0 {lo hi : Nat} (h : hi ≤ 10000) (hl : lo ≤ 10000) : IntKind.i64.wrap ((IntKind.i64.wrap ((lo : Int) + (hi : Int))).tdiv (2 : Int)) = (((lo + hi) / 2 : Nat) : Int) := by
  rw [wrap64 (n := (lo : Int) + (hi : Int)) (by omega) (by omega), Int.tdiv_eq_ediv_of_nonneg (by omega), wrap64 (by omega) (by omega)]
  omega
theorem limbsOf_ev {n : Nat} (h : n ≤ 9999) : Ev (fun k => F207 k (n : Int)) ((digs n, ()), ((), ())) := by
  refine Ev.step 2 (fun k => F207_eq k _) ?_
  have z : ∀ x : List Int, Ev (fun k => F207c2 k (0 : Int) x) ((x, ()), ((), ())) := fun x => Ev.step 1 (fun k => F207c2_eq k _ _) (Ev.now _)
  by_cases h0 : n = 0
  · subst h0
    rw [digs_zero]
    exact z []
  · refine Ev.step 1 (fun k => F207c2_eq k _ _) ?_
    have c1 : decide ((n : Int) > 0) = true := decide_eq_true (by omega)
    have c2 : IntKind.i64.wrap ((n : Int).tmod 10000) = (n : Int) := by
      rw [tmod_pos (by omega), Int.emod_eq_of_lt (by omega) (by omega)]
      exact wrap64 (by omega) (by omega)
    have c3 : IntKind.u64.wrap ((n : Int).tdiv 10000) = 0 := by
      rw [tdiv_pos (by omega), Int.ediv_eq_zero_of_lt (by omega) (by omega)]
      exact u64_small (by omega) (by omega)
    have c4 : decide (([] : List Int).length + [(n : Int)].length ≤ 17592186044416) = true := by simp
    simp only [c1, c2, c3, c4, if_true, List.nil_append]
    rw [digs_small (by omega) (by omega)]
    exact z _
theorem digs_InR (n : Nat) : InR (digs n) := (digs_spec n).1
theorem digs_Trim (n : Nat) : Trim (digs n) := (digs_spec n).2.1
theorem InR.one {d : Int} (h : 0 ≤ d ∧ d ≤ 9999) : InR [d] := InR.mk h InR.nil
theorem VI_one (d : Int) : VI [d] = d := by
  show d + 10000 * 0 = d
  omega
theorem cmpI_le {a b : Nat} : decide (cmpI a b ≤ 0) = decide (a ≤ b) := by
  unfold cmpI
  split
  · rw [decide_eq_true (by omega), decide_eq_true (by omega)]
  · split
    · rw [decide_eq_true (by omega), decide_eq_true (by omega)]
    · rw [decide_eq_false (by omega), decide_eq_false (by omega)]
section
variable {b : List Int} {B X : Nat}
theorem mulN (hb : InR b) (lb : b.length ≤ 1000) (hB : VI b = (B : Int)) {n : Nat} (hn : n ≤ 9999) : Ev (fun k => F196 k b (digs n)) ((digs (B * n), ()), ((), (), ())) := by
  have := mul_ev hb (digs_InR n) (by omega) (Nat.le_trans (digs_len_le (m := 1) (by omega)) (by omega))
  rw [hB, VI_digs, show ((B : Int) * (n : Int)).toNat = B * n by rw [← Int.natCast_mul]; rfl] at this
  exact this
theorem l1MulN (hb : InR b) (lb : b.length ≤ 1000) (hB : VI b = (B : Int)) {c : List Int} {n : Nat} (hc : InR c) (lc : c.length ≤ 1) (hn : VI c = (n : Int)) : Ev (fun k => F204 k b c) ((digs (B * n), ()), ((), (), ())) := by
  have := l1MulAbs_ev hb hc (by omega) (by omega)
  rw [hB, hn, show ((B : Int) * (n : Int)).toNat = B * n by rw [← Int.natCast_mul]; rfl] at this
  exact this
theorem BN_len (hb : InR b) (lb : b.length ≤ 1000) (hB : VI b = (B : Int)) {n : Nat} (hn : n ≤ 10000) : (digs (B * n)).length ≤ 1001 := by
  have h1 := VI_lt hb
  rw [hB] at h1
  have h2 : B < 10000 ^ b.length := by
    have : ((B : Nat) : Int) < ((10000 ^ b.length : Nat) : Int) := by rw [Int.natCast_pow]; exact h1
    omega
  have h3 : B * n < 10000 ^ (b.length + 1) := by
    rw [Nat.pow_succ]
    exact Nat.lt_of_le_of_lt (Nat.mul_le_mul_left B hn) (Nat.mul_lt_mul_of_pos_right h2 (by omega))
  have := digs_len_le h3
  omega
theorem cmpN (hb : InR b) (lb : b.length ≤ 1000) (hB : VI b = (B : Int)) (lX : (digs X).length ≤ 2000) {n : Nat} (hn : n ≤ 10000) : Ev (fun k => F199 k (digs (B * n)) (digs X)) ((cmpI (B * n) X, ()), ((), (), ())) :=
  cmp_ev (digs_InR _) (digs_InR _) (digs_Trim _) (digs_Trim _) (VI_digs _) (VI_digs _) (by have := BN_len hb lb hB hn; omega) (by omega)
theorem l1CmpN (hb : InR b) (lb : b.length ≤ 1000) (hB : VI b = (B : Int)) {n : Nat} (hn : n ≤ 10000) : Ev (fun k => F206 k (digs (B * n)) (digs X)) ((cmpI (B * n) X, ()), ((), (), ())) :=
  l1CmpAbs_ev (digs_InR _) (digs_InR _) (digs_Trim _) (digs_Trim _) (VI_digs _) (VI_digs _) (by have := BN_len hb lb hB hn; omega)
theorem subN (hb : InR b) (lb : b.length ≤ 1000) (hB : VI b = (B : Int)) (lX : (digs X).length ≤ 2000) {n : Nat} (h : B * n ≤ X) : Ev (fun k => F200 k (digs X) (digs (B * n))) ((digs (X - B * n), ()), ((), (), ())) := by
  have := sub_ev (digs_InR X) (digs_InR (B * n)) (digs_Trim _) (by omega) (by rw [VI_digs, VI_digs]; omega)
  rw [VI_digs, VI_digs, show ((X : Int) - ((B * n : Nat) : Int)).toNat = X - B * n by omega] at this
  exact this
theorem l1SubN (lX : (digs X).length ≤ 2000) {n : Nat} (h : B * n ≤ X) : Ev (fun k => F239 k (digs X) (digs (B * n))) ((digs (X - B * n), ()), ((), (), ())) := by
  have := l1SubAbs_ev (digs_InR X) (digs_InR (B * n)) (digs_Trim _) (by omega) (by rw [VI_digs, VI_digs]; omega)
  rw [VI_digs, VI_digs, show ((X : Int) - ((B * n : Nat) : Int)).toNat = X - B * n by omega] at this
  exact this
theorem quo_of {n : Nat} (h1 : B * n ≤ X) (h2 : X < B * (n + 1)) : n = X / B := by
  have hp : 0 < B := by
    rcases Nat.eq_zero_or_pos B with h | h
    · subst h; omega
    · exact h
  symm
  rw [Nat.div_eq_iff hp]
  constructor
  · rw [Nat.mul_comm]; omega
  · rw [Nat.mul_comm]
    have : B * (n + 1) = B * n + B := Nat.mul_succ B n
    omega
/-- the search for one limb of the quotient -/
theorem fitI (hb : InR b) (lb : b.length ≤ 1000) (hB : VI b = (B : Int)) (lX : (digs X).length ≤ 2000) {out : List Int} {i : Nat} (hi : i < out.length) : ∀ (m lo hi : Nat), hi - lo ≤ m → lo ≤ hi → hi ≤ 9999 → B * lo ≤ X → X < B * (hi + 1) →
    Ev (fun k => F1018165c8 k b out (digs X) (i : Int) (lo : Int) (hi : Int)) ((), ((), (), (b, ()), (out.set i ((X / B : Nat) : Int), ()), (digs (X - B * (X / B)), ()), ())) := by
  have stop : ∀ n : Nat, n ≤ 9999 → B * n ≤ X → X < B * (n + 1) → Ev (fun k => F1018165c8 k b out (digs X) (i : Int) (n : Int) (n : Int)) ((), ((), (), (b, ()), (out.set i ((X / B : Nat) : Int), ()), (digs (X - B * (X / B)), ()), ())) := by
    intro n hn h1 h2
    have hq := quo_of h1 h2
    rw [← hq]
    refine Ev.step 1 (fun k => F1018165c8_eq k _ _ _ _ _ _) ?_
    simp only [lt_false (Nat.le_refl n), Bool.false_eq_true, if_false, ge0, lt_true hi, Bool.and_self, if_true, Int.toNat_natCast, getI_of hi, Option.bind_some, u64_small (show 0 ≤ (n : Int) by omega) (show (n : Int) ≤ 9999 by omega)]
    exact Ev.bind (limbsOf_ev hn) (Ev.bind (mulN hb lb hB hn) (Ev.bind (subN hb lb hB lX h1) (Ev.now _)))
  intro m
  induction m with
  | zero =>
    intro lo hi' hm hl hh h1 h2
    obtain rfl : lo = hi' := by omega
    exact stop lo hh h1 h2
  | succ m ih =>
    intro lo hi' hm hl hh h1 h2
    by_cases he : lo = hi'
    · subst he
      exact stop lo hh h1 h2
    · obtain ⟨c, hc⟩ : ∃ c, c = (lo + hi' + 1) / 2 := ⟨_, rfl⟩
      have hc1 : lo < c := by omega
      have hc2 : c ≤ hi' := by omega
      refine Ev.step 1 (fun k => F1018165c8_eq k _ _ _ _ _ _) ?_
      simp only [lt_true (show lo < hi' by omega), if_true, mid_eq (show hi' ≤ 10000 by omega) (show lo ≤ 10000 by omega), ← hc, u64_small (show 0 ≤ (c : Int) by omega) (show (c : Int) ≤ 9999 by omega)]
      refine Ev.bind (limbsOf_ev (by omega)) (Ev.bind (mulN hb lb hB (by omega)) (Ev.bind (cmpN hb lb hB lX (by omega)) ?_))
      simp only [cmpI_le]
      by_cases hle : B * c ≤ X
      · simp only [hle, decide_true, if_true]
        exact ih c hi' (by omega) hc2 hh hle h2
      · simp only [hle, decide_false, Bool.false_eq_true, if_false]
        have e1 : IntKind.i64.wrap ((c : Int) - 1) = ((c - 1 : Nat) : Int) := by
          rw [wrap64 (by omega) (by omega)]
          omega
        rw [e1]
        exact ih lo (c - 1) (by omega) (by omega) (by omega) h1 (by rw [show c - 1 + 1 = c by omega]; omega)
theorem fitS (hb : InR b) (lb : b.length ≤ 1000) (hB : VI b = (B : Int)) : ∀ (m lo hi : Nat), hi - lo ≤ m + 1 → lo < hi → hi ≤ 10000 → B * lo ≤ X → X < B * hi →
    Ev (fun k => F238c3 k (digs X) b (lo : Int) (hi : Int)) ((((X / B : Nat) : Int), ()), ((), (), ())) := by
  have stop : ∀ n : Nat, n ≤ 9999 → B * n ≤ X → X < B * (n + 1) → Ev (fun k => F238c3 k (digs X) b (n : Int) ((n + 1 : Nat) : Int)) ((((X / B : Nat) : Int), ()), ((), (), ())) := by
    intro n hn h1 h2
    rw [← quo_of h1 h2]
    refine Ev.step 1 (fun k => F238c3_eq k _ _ _ _) ?_
    have c1 : decide (IntKind.i64.wrap (((n + 1 : Nat) : Int) - (n : Int)) > 1) = false := by
      rw [wrap64 (by omega) (by omega)]
      exact decide_eq_false (by omega)
    simp only [c1, Bool.false_eq_true, if_false]
    exact Ev.now _
  intro m
  induction m with
  | zero =>
    intro lo hi' hm hl hh h1 h2
    obtain rfl : hi' = lo + 1 := by omega
    exact stop lo (by omega) h1 h2
  | succ m ih =>
    intro lo hi' hm hl hh h1 h2
    by_cases he : hi' = lo + 1
    · subst he
      exact stop lo (by omega) h1 h2
    · obtain ⟨c, hc⟩ : ∃ c, c = (lo + hi') / 2 := ⟨_, rfl⟩
      have hc1 : lo < c := by omega
      have hc2 : c < hi' := by omega
      refine Ev.step 1 (fun k => F238c3_eq k _ _ _ _) ?_
      have c1 : decide (IntKind.i64.wrap ((hi' : Int) - (lo : Int)) > 1) = true := by
        rw [wrap64 (by omega) (by omega)]
        exact decide_eq_true (by omega)
      simp only [c1, if_true, mid_eq0 (show hi' ≤ 10000 by omega) (show lo ≤ 10000 by omega), ← hc]
      refine Ev.bind (l1MulN hb lb hB (InR.one (by omega)) (by simp) (VI_one (c : Int))) (Ev.bind (l1CmpN hb lb hB (by omega)) ?_)
      simp only [cmpI_le]
      by_cases hle : B * c ≤ X
      · simp only [hle, decide_true, if_true]
        exact ih c hi' (by omega) hc2 hh hle h2
      · simp only [hle, decide_false, Bool.false_eq_true, if_false]
        exact ih lo c (by omega) hc1 (by omega) h1 (by omega)
end
end Go.Proofs.YtiojgdjpigcgaaaGreatDoor.R
end

section
/-! Rf: division of limbs: the loops over the limbs. -/
set_option autoImplicit false
set_option linter.unusedSimpArgs false
set_option linter.unusedVariables false
namespace Go.Proofs.YtiojgdjpigcgaaaGreatDoor.R
open Go.Rf
theorem VI_cons (d : Int) (l : List Int) : VI (d :: l) = d + 10000 * VI l := rfl
theorem VI_drop {a : List Int} {i : Nat} (h : i < a.length) : VI (a.drop i) = a.getD i 0 + 10000 * VI (a.drop (i + 1)) := by
  rw [List.drop_eq_getElem_cons h, VI_cons]
  congr 1
  rw [List.getD_eq_getElem?_getD, List.getElem?_eq_getElem h]
  rfl
theorem inrSet {l : List Int} (h : InR l) {i : Nat} {x : Int} (hx : 0 ≤ x ∧ x ≤ 9999) : InR (l.set i x) := fun d hd => by
  rcases List.mem_or_eq_of_mem_set hd with hd | hd
  · exact h d hd
  · rw [hd]; exact hx
theorem limbq {q : Nat} (h : q ≤ 9999) : 0 ≤ (q : Int) ∧ (q : Int) ≤ 9999 := ⟨by omega, by omega⟩
theorem ar1 {Q q : Nat} {V P : Int} (h : V = (Q : Int) * (P * 10000)) : V + ((q : Int) - 0) * P = ((10000 * Q + q : Nat) : Int) * P := by
  rw [h, show ((10000 * Q + q : Nat) : Int) = 10000 * (Q : Int) + q by omega]
  grind
theorem ar2 {C R : Nat} {x V P : Int} (hx : 0 ≤ x) : V + ((10000 * C + (x.toNat + 10000 * R) : Nat) : Int) * P = V + x * P + ((C + R : Nat) : Int) * (P * 10000) := by
  rw [show ((10000 * C + (x.toNat + 10000 * R) : Nat) : Int) = 10000 * (C : Int) + x + 10000 * (R : Int) by omega, show ((C + R : Nat) : Int) = (C : Int) + R by omega]
  grind
theorem ar3 {C R : Nat} {x : Int} (hx : 0 ≤ x) : ((10000 * C + (x.toNat + 10000 * R) : Nat) : Int) = x + 10000 * ((C + R : Nat) : Int) := by
  omega
section
variable {a b : List Int} {B : Nat}
/-- one limb more of the dividend -/
theorem round_len {R : Nat} {x : Int} (hR : (digs R).length ≤ 1001) (hx : 0 ≤ x ∧ x ≤ 9999) : (digs (x.toNat + 10000 * R)).length ≤ 1002 := by
  by_cases h : x.toNat + 10000 * R = 0
  · rw [h, digs_zero]; simp
  · rw [digs_pos h, List.length_cons, show (x.toNat + 10000 * R) / 10000 = R by omega]
    omega
theorem R_len (hb : InR b) (lb : b.length ≤ 1000) (hB : VI b = (B : Int)) {R : Nat} (h : R < B) : (digs R).length ≤ 1001 := by
  have h1 := VI_lt hb
  rw [hB] at h1
  have h2 : B < 10000 ^ b.length := by
    have : ((B : Nat) : Int) < ((10000 ^ b.length : Nat) : Int) := by rw [Int.natCast_pow]; exact h1
    omega
  have := digs_len_le (show R < 10000 ^ b.length by omega)
  omega
theorem consV {R : Nat} {x : Int} (hx : 0 ≤ x ∧ x ≤ 9999) : VI ([x] ++ digs R) = ((x.toNat + 10000 * R : Nat) : Int) := by
  rw [show [x] ++ digs R = x :: digs R from rfl, VI_cons, VI_digs]
  omega
theorem consR {R : Nat} {x : Int} (hx : 0 ≤ x ∧ x ≤ 9999) : InR ([x] ++ digs R) := InR.mk hx (digs_InR R)
theorem quo_small {R : Nat} {x : Int} (hx : 0 ≤ x ∧ x ≤ 9999) (hR : R < B) : (x.toNat + 10000 * R) / B ≤ 9999 := by
  have : (x.toNat + 10000 * R) / B < 10000 := by
    rw [Nat.div_lt_iff_lt_mul (by omega)]
    have : 10000 * (R + 1) ≤ 10000 * B := Nat.mul_le_mul_left 10000 hR
    omega
  omega
theorem rest_lt {X : Nat} (h : 0 < B) : X - B * (X / B) < B := by
  have := Nat.mod_lt X h
  have h2 := Nat.div_add_mod X B
  omega
theorem rest_eq (X : Nat) : X / B * B + (X - B * (X / B)) = X := by
  have h2 := Nat.div_add_mod X B
  have h3 : B * (X / B) = X / B * B := Nat.mul_comm _ _
  omega
theorem round_ev (hb : InR b) (lb : b.length ≤ 1000) (hB : VI b = (B : Int)) (hp : 0 < B) {out : List Int} {i R : Nat} {x : Int} (hi : i < out.length) (hx : 0 ≤ x ∧ x ≤ 9999) (hR : R < B) :
    Ev (fun k => F1018165 k (i : Int) x b out (digs R)) ((), ((), (), (b, ()), (out.set i (((x.toNat + 10000 * R) / B : Nat) : Int), ()), (digs (x.toNat + 10000 * R - B * ((x.toNat + 10000 * R) / B)), ()), ())) := by
  have hl := R_len hb lb hB hR
  have c1 : decide ([x].length + (digs R).length ≤ 17592186044416) = true := decide_eq_true (by simp; omega)
  refine Ev.step 1 (fun k => F1018165_eq k _ _ _ _ _) ?_
  simp only [c1, if_true]
  have ht := trim_ev (consR (R := R) hx) (by simp; omega)
  rw [consV hx] at ht
  refine Ev.bind ht ?_
  have := fitI (X := x.toNat + 10000 * R) hb lb hB (by have := round_len hl hx; omega) hi 9999 0 9999 (by omega) (by omega) (by omega) (by omega) (by
    have : 10000 * (R + 1) ≤ 10000 * B := Nat.mul_le_mul_left 10000 hR
    omega)
  exact this
/-- the rounds of the program's division -/
theorem divI (hb : InR b) (lb : b.length ≤ 1000) (hB : VI b = (B : Int)) (hp : 0 < B) {n : Nat} : ∀ (l : List Int) (Q R : Nat) (out : List Int), InR l → l.length ≤ n → out.length = n → InR out → (∀ j, j < l.length → out.getD j 0 = 0) → VI out = (Q : Int) * 10000 ^ l.length → R < B →
    ∃ (Q' R' : Nat) (out' : List Int), Ev (fun k => backK (.int .i64) [.box [.v (.sl (.int .i64))], .box [.o (.int .i64) 3 true], .box [.v (.sl (.int .i64))]] (fun i x d1 => (F1018165 k i x d1.1.1 d1.2.1.1 d1.2.2.1.1).bind fun o3 => some o3.2.2.2) l ((b, ()), (out, ()), (digs R, ()), ())) ((b, ()), (out', ()), (digs R', ()), ()) ∧
      InR out' ∧ out'.length = n ∧ VI out' = (Q' : Int) ∧ R' < B ∧ ((Q' * B + R' : Nat) : Int) = VI l.reverse + ((Q * B + R : Nat) : Int) * 10000 ^ l.length
  | [], Q, R, out, _, _, hlen, hr, _, hV, hR => ⟨Q, R, out, Ev.now _, hr, hlen, by simpa using hV, hR, by simp [VI]⟩
  | x :: l, Q, R, out, hl, hn, hlen, hr, hz, hV, hR => by
    obtain ⟨hx, hl⟩ := hl.cons
    simp only [List.length_cons] at hn hz hV
    obtain ⟨X, hX⟩ : ∃ X, X = x.toNat + 10000 * R := ⟨_, rfl⟩
    have hq := quo_small (B := B) hx hR
    have h1 := round_ev hb lb hB hp (out := out) (i := l.length) (by omega) hx hR
    rw [← hX] at h1 hq
    obtain ⟨Q', R', out', h2, h3, h4, h5, h6, h7⟩ := divI (n := n) hb lb hB hp l (10000 * Q + X / B) (X - B * (X / B)) (out.set l.length ((X / B : Nat) : Int)) hl (by omega) (by rw [List.length_set]; exact hlen) (inrSet hr (limbq hq)) (fun j hj => by
      rw [getI_set (i := l.length) (by omega), if_neg (by omega)]
      exact hz j (by omega)) (by
      rw [VI_set (by omega), hz l.length (by omega)]
      exact ar1 (by rw [hV, Int.pow_succ])) (rest_lt hp)
    refine ⟨Q', R', out', Ev.bind (Ev.bind h1 (Ev.now _)) h2, h3, h4, h5, h6, ?_⟩
    rw [h7, List.reverse_cons, VI_snoc, List.length_reverse, List.length_cons, Int.pow_succ]
    have e1 : (10000 * Q + X / B) * B + (X - B * (X / B)) = 10000 * (Q * B) + X := by
      have := rest_eq (B := B) X
      rw [Nat.add_mul, Nat.mul_assoc]
      omega
    rw [e1, hX]
    exact ar2 hx.1
theorem uniq_div {A Q R : Nat} (h : Q * B + R = A) (hR : R < B) : Q = A / B ∧ R = A % B := by
  have hp : 0 < B := by omega
  subst h
  constructor
  · rw [Nat.mul_comm, Nat.mul_add_div hp, Nat.div_eq_of_lt hR]; omega
  · rw [Nat.mul_comm, Nat.mul_add_mod, Nat.mod_eq_of_lt hR]
theorem div_ev (ha : InR a) (hb : InR b) (la : a.length ≤ 1000) (lb : b.length ≤ 1000) {A : Nat} (hA : VI a = (A : Int)) (hB : VI b = (B : Int)) (hp : 0 < B) :
    Ev (fun k => F165 k a b) ((digs (A / B), digs (A % B), ()), ((), (), ())) := by
  have c1 : (decide (0 ≤ (a.length : Int)) && decide ((a.length : Int) ≤ (a.length : Int)) && decide ((a.length : Int) ≤ (17592186044416 : Int))) = true := by simp; omega
  have c2 : Nat.ble a.length 1152921504606846976 = true := Nat.ble_eq_true_of_le (by omega)
  refine Ev.step 2 (fun k => F165_eq k _ _) ?_
  simp only [c1, c2, if_true, Int.toNat_natCast]
  obtain ⟨Q, R, out, h1, h2, h3, h4, h5, h6⟩ := divI hb lb hB hp (n := a.length) a.reverse 0 0 (List.replicate a.length 0) (fun d hd => ha d (by simpa using hd)) (by simp) (by simp) (fun d hd => by rw [(List.mem_replicate.1 hd).2]; omega) (fun j _ => by
    rw [List.getD_eq_getElem?_getD, List.getElem?_replicate]
    split <;> rfl) (by rw [VI_zeros]; simp) hp
  rw [digs_zero] at h1
  rw [List.reverse_reverse, hA] at h6
  obtain ⟨q1, q2⟩ := uniq_div (show Q * B + R = A by simp at h6; omega) h5
  refine Ev.bind h1 (Ev.step 1 (fun k => F165c15_eq k _ _) ?_)
  have ht := trim_ev h2 (by omega)
  rw [h4, Int.toNat_natCast] at ht
  subst q1 q2
  exact Ev.bind ht (Ev.now _)
/-- the reference's division -/
theorem l1DivAbs_ev (ha : InR a) (hb : InR b) (la : a.length ≤ 1000) (lb : b.length ≤ 1000) {A : Nat} (hA : VI a = (A : Int)) (hB : VI b = (B : Int)) (hp : 0 < B) :
    Ev (fun k => F225 k a b) ((digs (A / B), digs (A % B), ()), ((), (), ())) := by
  have c1 : (decide (0 ≤ (a.length : Int)) && decide ((a.length : Int) ≤ (a.length : Int)) && decide ((a.length : Int) ≤ (17592186044416 : Int))) = true := by simp; omega
  refine Ev.step 2 (fun k => F225_eq k _ _) ?_
  simp only [c1, if_true, Int.toNat_natCast]
  have key : ∀ (m Q R : Nat) (out : List Int), m ≤ a.length → out.length = a.length → InR out → (∀ j, j < m → out.getD j 0 = 0) → VI out = (Q : Int) * 10000 ^ m → R < B → ((Q * B + R : Nat) : Int) = VI (a.drop m) →
      Ev (fun k => F225c4 k a b out (digs R) ((m : Int) - 1)) ((digs (A / B), digs (A % B), ()), ((), (), ())) := by
    intro m
    induction m with
    | zero =>
      intro Q R out _ hlen hr _ hV hR hT
      rw [List.drop_zero, hA] at hT
      obtain ⟨q1, q2⟩ := uniq_div (show Q * B + R = A by omega) hR
      have c : decide (((0 : Nat) : Int) - 1 ≥ 0) = false := by decide
      refine Ev.step 1 (fun k => F225c4_eq k _ _ _ _ _) ?_
      simp only [c, Bool.false_eq_true, if_false]
      have ht := l1Trim_ev hr (by omega)
      have e9 : ((Q : Int) * 10000 ^ 0).toNat = Q := by rw [Int.pow_zero, Int.mul_one, Int.toNat_natCast]
      rw [hV, e9] at ht
      subst q1 q2
      exact Ev.bind ht (Ev.now _)
    | succ m ih =>
      intro Q R out hm hlen hr hz hV hR hT
      have e0 : (((m + 1 : Nat) : Int) - 1) = (m : Int) := by omega
      rw [e0]
      obtain ⟨x, hxd⟩ : ∃ x, x = a.getD m 0 := ⟨_, rfl⟩
      have hx := ha.at (show m < a.length by omega)
      rw [← hxd] at hx
      obtain ⟨X, hX⟩ : ∃ X, X = x.toNat + 10000 * R := ⟨_, rfl⟩
      have hl := R_len hb lb hB hR
      have hq := quo_small (B := B) hx hR
      rw [← hX] at hq
      have lX : (digs X).length ≤ 2000 := by have := round_len hl hx; rw [← hX] at this; omega
      have c2 : decide ([x].length + (digs R).length ≤ 17592186044416) = true := decide_eq_true (by simp; omega)
      have c3 : decide ((m : Int) ≥ 0) = true := decide_eq_true (by omega)
      have ht := l1Trim_ev (consR (R := R) hx) (by simp; omega)
      rw [consV hx, ← hX, Int.toNat_natCast] at ht
      have hf : Ev (fun k => F238 k (digs X) b) ((((X / B : Nat) : Int), ()), ((), (), ())) := Ev.step 2 (fun k => F238_eq k _ _) (by
        have := fitS (X := X) hb lb hB 9999 0 10000 (by omega) (by omega) (by omega) (by omega) (by
          have : 10000 * (R + 1) ≤ 10000 * B := Nat.mul_le_mul_left 10000 hR
          omega)
        exact this)
      have hn := l1Trim_ev (InR.one (d := ((X / B : Nat) : Int)) (limbq hq)) (by simp)
      rw [VI_one, Int.toNat_natCast] at hn
      have hmn := l1MulN hb lb hB (digs_InR (X / B)) (digs_len_le (m := 1) (by omega)) (VI_digs (X / B))
      have hsb := l1SubN (B := B) (n := X / B) lX (Nat.mul_div_le X B)
      refine Ev.step 1 (fun k => F225c4_eq k _ _ _ _ _) ?_
      simp only [c3, ge0, if_true, Int.toNat_natCast, getI_of (show m < a.length by omega), Option.bind_some, ← hxd, c2]
      refine Ev.bind ht (Ev.bind hf ?_)
      simp only [lt_true (show m < out.length by omega), Bool.and_self, if_true, getI_of (show m < out.length by omega), Option.bind_some]
      refine Ev.bind hn (Ev.bind hmn (Ev.bind hsb ?_))
      have e1 : IntKind.i64.wrap ((m : Int) - 1) = (m : Int) - 1 := wrap64 (by omega) (by omega)
      rw [e1]
      refine ih (10000 * Q + X / B) (X - B * (X / B)) (out.set m ((X / B : Nat) : Int)) (by omega) (by rw [List.length_set]; exact hlen) (inrSet hr (limbq hq)) (fun j hj => by
        rw [getI_set (by omega), if_neg (by omega)]
        exact hz j (by omega)) (by
        rw [VI_set (by omega), hz m (by omega)]
        exact ar1 (by rw [hV, Int.pow_succ])) (rest_lt hp) ?_
      rw [VI_drop (by omega), ← hT, ← hxd]
      have e2 : (10000 * Q + X / B) * B + (X - B * (X / B)) = 10000 * (Q * B) + X := by
        have := rest_eq (B := B) X
        rw [Nat.add_mul, Nat.mul_assoc]
        omega
      rw [e2, hX]
      exact ar3 hx.1
  have e0 : IntKind.i64.wrap ((a.length : Int) - 1) = (a.length : Int) - 1 := wrap64 (by omega) (by omega)
  rw [e0]
  have := key a.length 0 0 (List.replicate a.length 0) (by omega) (by simp) (fun d hd => by rw [(List.mem_replicate.1 hd).2]; omega) (fun j _ => by
    rw [List.getD_eq_getElem?_getD, List.getElem?_replicate]
    split <;> rfl) (by rw [VI_zeros]; simp) hp (by rw [List.drop_length]; simp [VI])
  rw [digs_zero] at this
  exact this
end
end Go.Proofs.YtiojgdjpigcgaaaGreatDoor.R
end

section
/-! Rf: quotients that are rounded; the least scale. -/
set_option autoImplicit false
set_option linter.unusedSimpArgs false
set_option linter.unusedVariables false
namespace Go.Proofs.YtiojgdjpigcgaaaGreatDoor.R
open Go.Rf
theorem len_gt (n : Nat) : decide (((digs n).length : Int) > 0) = decide (n ≠ 0) := by
  by_cases h : n = 0
  · subst h
    rw [digs_zero]; rfl
  · rw [digs_pos h]
    rw [decide_eq_true h, decide_eq_true (by simp)]
theorem len_is0 (n : Nat) : (((digs n).length : Int) == 0) = decide (n = 0) := by
  by_cases h : n = 0
  · subst h
    rw [digs_zero]; rfl
  · rw [digs_pos h, decide_eq_false h, beq_eq_false_iff_ne]
    simp; omega
/-- whether what is left is rounded away from nought -/
def rmore (mode : Int) (neg odd : Bool) (half : Int) : Bool := if mode = 1 then true else if mode = 2 then false else if mode = 3 then !neg else if mode = 4 then neg else if mode = 5 then decide (half ≥ 0) else if mode = 6 then decide (half > 0) else (decide (half > 0) || (half == 0 && odd))
/-- a quotient that is rounded -/
def rquo (neg : Bool) (V D : Nat) (mode : Int) : Nat := if V % D = 0 then V / D else if rmore mode neg (decide (V / D % 2 = 1)) (cmpI (V % D + V % D) D) = true then V / D + 1 else V / D
def trimN : Nat → Nat → Nat × Nat
  | V, 0 => (V, 0)
  | V, s + 1 => if V % 10 = 0 then trimN (V / 10) s else (V, s + 1)
theorem big_ev {neg : Bool} {n : Nat} (h16 : (digs n).length ≤ 16) : Ev (fun k => F91 k neg (digs n)) (((neg && decide (n ≠ 0), digs n, ()), true, ()), ((), (), ())) := by
  obtain ⟨hr, ht, hv⟩ := digs_spec n
  have htr := trim_ev hr (show (digs n).length ≤ 1000000 by omega)
  have e : digs (VI (digs n)).toNat = digs n := by rw [hv]; rfl
  rw [e] at htr
  have c16 : decide (((digs n).length : Int) > 16) = false := decide_eq_false (by omega)
  refine Ev.step 2 (fun k => F91_eq k _ _) (Ev.bind htr ?_)
  simp only [c16, Bool.false_eq_true, if_false, len_gt]
  cases neg with
  | true =>
    simp only [if_true, Bool.true_and]
    exact Ev.bind (clone_int_ev _ (by omega)) (Ev.now _)
  | false =>
    simp only [Bool.false_eq_true, if_false, Bool.false_and]
    exact Ev.bind (clone_int_ev _ (by omega)) (Ev.now _)
theorem div10_len {V : Nat} {m : Nat} (h : (digs V).length ≤ m) : (digs (V / 10)).length ≤ m := by
  have h1 := VI_lt (digs_InR V)
  rw [VI_digs] at h1
  have h2 : V < 10000 ^ (digs V).length := by
    have : ((V : Nat) : Int) < ((10000 ^ (digs V).length : Nat) : Int) := by rw [Int.natCast_pow]; exact h1
    omega
  have := digs_len_le (Nat.lt_of_le_of_lt (Nat.div_le_self V 10) h2)
  omega
theorem trim_both {n : Bool} {l : List Int} {s0 : Int} : ∀ (s V : Nat), s ≤ 12 → (digs V).length ≤ 16 → (V = 0 → n = false) → ((digs (trimN V s).1).length ≤ 16 ∧
    Ev (fun k => F128c4 k n l s0 false ([] : List Int) (0 : Int) (digs V) (s : Int)) (((n, digs (trimN V s).1, ((trimN V s).2 : Int), ()), ()), (((), (), (), ()), ())) ∧
    Ev (fun k => F191c3 k n l s0 false ([] : List Int) (0 : Int) (digs V) (s : Int)) (((n, digs (trimN V s).1, ((trimN V s).2 : Int), ()), ()), (((), (), (), ()), ()))) := by
  have hneg : ∀ {V : Nat}, (V = 0 → n = false) → (n && decide (V ≠ 0)) = n := by
    intro V h
    by_cases hV : V = 0
    · rw [h hV]; rfl
    · rw [decide_eq_true hV, Bool.and_true]
  have ht : ∀ {V : Nat}, (digs V).length ≤ 16 → Ev (fun k => F224 k (digs V)) ((digs V, ()), ((), ())) := fun {V} h => by
    have := l1Trim_ev (digs_InR V) (by omega)
    rwa [VI_digs, Int.toNat_natCast] at this
  intro s
  induction s with
  | zero =>
    intro V _ hl hn
    have c : decide (((0 : Nat) : Int) > 0) = false := by decide
    refine ⟨hl, Ev.step 1 (fun k => F128c4_eq k _ _ _ _ _ _ _ _) ?_, Ev.step 1 (fun k => F191c3_eq k _ _ _ _ _ _ _ _) ?_⟩
    · simp only [c, Bool.false_eq_true, if_false]
      have := big_ev (neg := n) hl
      rw [hneg hn] at this
      exact Ev.bind this (Ev.now _)
    · simp only [c, Bool.false_eq_true, if_false]
      exact Ev.bind (ht hl) (Ev.now _)
  | succ s ih =>
    intro V hs hl hn
    have c : decide (((s + 1 : Nat) : Int) > 0) = true := decide_eq_true (by omega)
    have h10 : VI [(10 : Int)] = ((10 : Nat) : Int) := VI_one 10
    have d1 := div_ev (digs_InR V) (b := [10]) (InR.one (by omega)) (by omega) (by simp) (VI_digs V) h10 (by omega)
    have d2 := l1DivAbs_ev (digs_InR V) (b := [10]) (InR.one (by omega)) (by omega) (by simp) (VI_digs V) h10 (by omega)
    have e1 : IntKind.i64.wrap (((s + 1 : Nat) : Int) - 1) = (s : Int) := by rw [wrap64 (by omega) (by omega)]; omega
    by_cases h : V % 10 = 0
    · have hV0 : V / 10 = 0 → n = false := fun h2 => hn (by omega)
      obtain ⟨i1, i2, i3⟩ := ih (V / 10) (by omega) (div10_len hl) hV0
      have et : trimN V (s + 1) = trimN (V / 10) s := by rw [trimN, if_pos h]
      rw [et]
      refine ⟨i1, Ev.step 1 (fun k => F128c4_eq k _ _ _ _ _ _ _ _) ?_, Ev.step 1 (fun k => F191c3_eq k _ _ _ _ _ _ _ _) ?_⟩
      · simp only [c, if_true]
        refine Ev.bind d1 ?_
        simp only [len_gt, h, ne_eq, not_true_eq_false, decide_false, Bool.false_eq_true, if_false, e1]
        exact i2
      · simp only [c, if_true]
        refine Ev.bind d2 ?_
        simp only [len_gt, h, ne_eq, not_true_eq_false, decide_false, Bool.false_eq_true, if_false, e1]
        exact i3
    · have et : trimN V (s + 1) = (V, s + 1) := by rw [trimN, if_neg h]
      rw [et]
      refine ⟨hl, Ev.step 1 (fun k => F128c4_eq k _ _ _ _ _ _ _ _) ?_, Ev.step 1 (fun k => F191c3_eq k _ _ _ _ _ _ _ _) ?_⟩
      · simp only [c, if_true]
        refine Ev.bind d1 ?_
        simp only [len_gt, h, ne_eq, not_false_eq_true, decide_true, if_true]
        have := big_ev (neg := n) hl
        rw [hneg hn] at this
        exact Ev.bind this (Ev.now _)
      · simp only [c, if_true]
        refine Ev.bind d2 ?_
        simp only [len_gt, h, ne_eq, not_false_eq_true, decide_true, if_true]
        exact Ev.bind (ht hl) (Ev.now _)
/-- a decimal at its least scale -/
def dTrim (n : Bool) (l : List Int) (s : Int) : Bool × List Int × Int × Unit := if decOk n l s = true then (n, digs (trimN (num l) s.toNat).1, ((trimN (num l) s.toNat).2 : Int), ()) else (false, [], 0, ())
end Go.Proofs.YtiojgdjpigcgaaaGreatDoor.R
end

section
/-! Rf: rounding to a scale. -/
set_option autoImplicit false
set_option linter.unusedSimpArgs false
set_option linter.unusedVariables false
namespace Go.Proofs.YtiojgdjpigcgaaaGreatDoor.R
open Go.Rf
theorem made_len1 {neg : Bool} {n : Nat} {s : Int} (h : (digs n).length ≤ 1000) : (made neg n s).1.2.1.length ≤ 1000 := by
  unfold made
  split
  · show ([] : List Int).length ≤ 1000
    simp
  · exact h
theorem pow_len {V m : Nat} (hV : V < 10000 ^ 16) (hm : m ≤ 24) : (digs (V * 10 ^ m)).length ≤ 40 := digs_len_le (at_lt hV hm)
/-- what is not in order -/
def dForm : (Bool × List Int × Int × Unit) × Int × Unit := ((false, [], 0, ()), 1, ())
/-- a decimal rounded to a scale -/
def dRound (n : Bool) (l : List Int) (s sc mode : Int) : (Bool × List Int × Int × Unit) × Int × Unit := if decOk n l s = true ∧ within sc 0 12 = true ∧ within mode 1 7 = true then
  (if s.toNat ≤ sc.toNat then made n (num l * 10 ^ (sc.toNat - s.toNat)) sc else made n (rquo n (num l) (10 ^ (s.toNat - sc.toNat)) mode) sc) else dForm
end Go.Proofs.YtiojgdjpigcgaaaGreatDoor.R
end

section
/-! Rf: products of decimals. -/
set_option autoImplicit false
set_option linter.unusedSimpArgs false
set_option linter.unusedVariables false
namespace Go.Proofs.YtiojgdjpigcgaaaGreatDoor.R
open Go.Rf
def dMul (n1 : Bool) (l1 : List Int) (s1 : Int) (n2 : Bool) (l2 : List Int) (s2 : Int) : (Bool × List Int × Int × Unit) × Int × Unit := if decOk n1 l1 s1 = true ∧ decOk n2 l2 s2 = true then
  (if s1 + s2 > 12 then made (!(n1 == n2)) (rquo (!(n1 == n2)) (num l1 * num l2) (10 ^ (s1.toNat + s2.toNat - 12)) 7) 12 else made (!(n1 == n2)) (num l1 * num l2) (s1 + s2)) else dForm
section
variable (n1 : Bool) (l1 : List Int) (s1 : Int) (n2 : Bool) (l2 : List Int) (s2 : Int)
end
end Go.Proofs.YtiojgdjpigcgaaaGreatDoor.R
end

section
/-! Rf, decimals: sums and differences, on both sides. -/
set_option autoImplicit false
set_option linter.unusedSimpArgs false
namespace Go.Proofs.YtiojgdjpigcgaaaGreatDoor.R
open Go.Rf
theorem made_len {neg : Bool} {n : Nat} {s : Int} (h : (digs n).length ≤ 100) : (made neg n s).1.2.1.length ≤ 1000 := by
  unfold made
  split
  · show ([] : List Int).length ≤ 1000
    simp
  · show (digs n).length ≤ 1000
    omega
theorem sSum_zero {na nb : Bool} {A : Nat} : sSum na A nb 0 = (na, A) := by
  unfold sSum
  split
  · rfl
  · rw [if_pos (Nat.zero_le _)]
    rfl
section
variable (n1 : Bool) (l1 : List Int) (s1 : Int) (n2 : Bool) (l2 : List Int) (s2 : Int)
/-- the sum of decimals; nb: the second's sign (turned where they are taken from each other) -/
def dSum (n1 : Bool) (l1 : List Int) (s1 : Int) (n2 : Bool) (l2 : List Int) (s2 : Int) (nb : Bool) : (Bool × List Int × Int × Unit) × Int × Unit := if decOk n1 l1 s1 = true ∧ decOk n2 l2 s2 = true then
  made (sSum n1 (num l1 * 10 ^ (max s1.toNat s2.toNat - s1.toNat)) nb (num l2 * 10 ^ (max s1.toNat s2.toNat - s2.toNat))).1 (sSum n1 (num l1 * 10 ^ (max s1.toNat s2.toNat - s1.toNat)) nb (num l2 * 10 ^ (max s1.toNat s2.toNat - s2.toNat))).2 ((max s1.toNat s2.toNat : Nat) : Int) else ((false, [], 0, ()), 1, ())
end
end Go.Proofs.YtiojgdjpigcgaaaGreatDoor.R
end

section
/-! Rf: decimals as whole numbers with a scale. -/
set_option autoImplicit false
set_option linter.unusedSimpArgs false
set_option linter.unusedVariables false
namespace Go.Proofs.YtiojgdjpigcgaaaGreatDoor.R
open Go.Rf
/-! ### figures -/
theorem decDigits_le : ∀ (k u : Nat), (Lib.decDigits u).length ≤ k + 1 → u < 10 ^ (k + 1)
  | 0, u, h => by
    by_cases hu : u < 10
    · simpa using hu
    · rw [Lib.decDigits, dif_neg hu, List.length_append] at h
      have : 0 < (Lib.decDigits (u / 10)).length := by
        rw [Lib.decDigits]; split <;> simp
      simp only [List.length_singleton] at h; omega
  | k + 1, u, h => by
    by_cases hu : u < 10
    · have : (1 : Nat) ≤ 10 ^ (k + 1) := Nat.pow_pos (by omega)
      rw [Nat.pow_succ]; omega
    · rw [Lib.decDigits, dif_neg hu, List.length_append] at h
      have := decDigits_le k (u / 10) (by simpa using h)
      rw [Nat.pow_succ]; omega
theorem dd1 {n : Nat} (h : n < 10) : Lib.decDigits n = [UInt8.ofNat (48 + n)] := by rw [Lib.decDigits, dif_pos h]
theorem ddS {n : Nat} (h : ¬ n < 10) : Lib.decDigits n = Lib.decDigits (n / 10) ++ [UInt8.ofNat (48 + n % 10)] := by rw [Lib.decDigits, dif_neg h]
theorem fig4_nat {n : Nat} (h : n < 10000) : fig4 (n : Int) = [UInt8.ofNat (48 + n / 1000), UInt8.ofNat (48 + n / 100 % 10), UInt8.ofNat (48 + n / 10 % 10), UInt8.ofNat (48 + n % 10)] := by
  rw [fig4, itoa_nat]
  by_cases h1 : n < 10
  · rw [dd1 h1, show n / 1000 = 0 by omega, show n / 100 = 0 by omega, show n / 10 = 0 by omega, show n % 10 = n by omega]
    rfl
  · by_cases h2 : n < 100
    · rw [ddS h1, dd1 (show n / 10 < 10 by omega), show n / 1000 = 0 by omega, show n / 100 = 0 by omega, show n / 10 % 10 = n / 10 by omega]
      rfl
    · by_cases h3 : n < 1000
      · rw [ddS h1, ddS (show ¬ n / 10 < 10 by omega), dd1 (show n / 10 / 10 < 10 by omega), show n / 1000 = 0 by omega, show n / 10 / 10 = n / 100 by omega, show n / 100 % 10 = n / 100 by omega]
        rfl
      · rw [ddS h1, ddS (show ¬ n / 10 < 10 by omega), ddS (show ¬ n / 10 / 10 < 10 by omega), dd1 (show n / 10 / 10 / 10 < 10 by omega), show n / 10 / 10 / 10 = n / 1000 by omega, show n / 10 / 10 = n / 100 by omega]
        rfl
theorem dd4 {n : Nat} (h : 10000 ≤ n) : Lib.decDigits n = Lib.decDigits (n / 10000) ++ fig4 ((n % 10000 : Nat) : Int) := by
  rw [fig4_nat (Nat.mod_lt _ (by omega)), ddS (show ¬ n < 10 by omega), ddS (show ¬ n / 10 < 10 by omega), ddS (show ¬ n / 10 / 10 < 10 by omega), ddS (show ¬ n / 10 / 10 / 10 < 10 by omega)]
  rw [show n / 10 / 10 / 10 / 10 = n / 10000 by omega, show n / 10 / 10 / 10 % 10 = n % 10000 / 1000 by omega, show n / 10 / 10 % 10 = n % 10000 / 100 % 10 by omega, show n / 10 % 10 = n % 10000 / 10 % 10 by omega, show n % 10 = n % 10000 % 10 by omega]
  simp only [List.append_assoc, List.singleton_append, List.cons_append, List.nil_append]
theorem figs_digs (n : Nat) (h : 0 < n) : figs (digs n) = Lib.decDigits n := by
  induction n using Nat.strongRecOn with
  | _ n ih =>
    rw [digs_pos (by omega)]
    by_cases h2 : n / 10000 = 0
    · rw [h2, digs_zero]
      show Lib.itoa _ = _
      rw [itoa_nat, show n % 10000 = n by omega]
    · have := ih (n / 10000) (by omega) (by omega)
      rw [dd4 (by omega), ← this]
      rw [digs_pos h2]
      rfl
theorem textL_digs (n : Nat) : textL (digs n) = ⟨(Lib.decDigits n).toArray⟩ := by
  by_cases h : n = 0
  · subst h
    rw [digs_zero, dd1 (by omega)]
    rfl
  · rw [textL_pos (by rw [digs_pos h]; simp), figs_digs n (by omega)]
theorem long_digs (n : Nat) : long (digs n) = if n = 0 then 0 else ((Lib.decDigits n).length : Int) := by
  unfold long
  by_cases h : n = 0
  · subst h; rw [digs_zero]; rfl
  · rw [if_neg h, if_neg (by rw [digs_pos h]; simp), textL_digs]
    rfl
theorem long30 (n : Nat) : long (digs n) > 30 ↔ ¬ n < 10 ^ 30 := by
  rw [long_digs]
  have h1 := decDigits_le 29 n
  have h2 := decDigits_len 29 n
  have h3 : (0 : Nat) < 10 ^ 30 := Nat.pow_pos (by omega)
  split
  · subst_vars
    constructor
    · intro h; omega
    · intro h; omega
  · constructor
    · intro h h'
      have := h2 h'
      omega
    · intro h
      have : ¬ (Lib.decDigits n).length ≤ 29 + 1 := fun h' => h (h1 h')
      omega
theorem lt30_16 {n : Nat} (h : n < 10 ^ 30) : n < 10000 ^ 16 := by
  have : (10 : Nat) ^ 30 < 10000 ^ 16 := by decide
  omega
theorem len16 {n : Nat} (h : n < 10 ^ 30) : (digs n).length ≤ 16 := digs_len_le (lt30_16 h)
theorem num_digs (n : Nat) : num (digs n) = n := by unfold num; rw [VI_digs]; rfl
/-! ### decimals -/
def sg (n : Bool) (A : Nat) : Int := if n = true then -(A : Int) else A
def D (z : Int) (s : Nat) : Bool × List Int × Int × Unit := (decide (z < 0), digs z.natAbs, (s : Int), ())
def mk (z : Int) (s : Nat) : (Bool × List Int × Int × Unit) × Int × Unit := if z.natAbs < 10 ^ 30 then (D z s, 0, ()) else ((false, [], 0, ()), 3, ())
theorem D_zero : D 0 0 = (false, [], 0, ()) := by
  unfold D
  rw [show (0 : Int).natAbs = 0 from rfl, digs_zero]
  rfl
theorem bOk_digs (z : Int) (h : z.natAbs < 10000 ^ 16) : bOk (decide (z < 0)) (digs z.natAbs) = true := by
  unfold bOk lastOk
  have h1 := digs_len_le h
  have h2 := digs_spec z.natAbs
  simp only [Bool.and_eq_true, decide_eq_true_eq]
  refine ⟨⟨h1, rangeOk_iff.2 h2.1⟩, ?_⟩
  by_cases h0 : z = 0
  · subst h0; rw [show (0 : Int).natAbs = 0 from rfl, digs_zero]; rfl
  · have hne : digs z.natAbs ≠ [] := fun e => h0 (by rw [digs_nil] at e; omega)
    rw [if_neg (fun e => hne (List.length_eq_zero_iff.1 e))]
    rcases h2.2.1 with h3 | h3
    · exact absurd h3 hne
    · exact bne_iff_ne.2 h3
theorem decOk_D {z : Int} {s : Nat} (h : z.natAbs < 10 ^ 30) (hs : s ≤ 12) : decOk (decide (z < 0)) (digs z.natAbs) (s : Int) = true := by
  unfold decOk
  rw [bOk_digs z (lt30_16 h), Bool.true_and, Bool.and_eq_true, decide_eq_true_eq]
  refine ⟨?_, ?_⟩
  · have h5 : ¬ long (digs z.natAbs) > 30 := fun h' => (long30 z.natAbs).1 h' h
    omega
  · unfold within
    simp; omega
theorem bOk_ex {n : Bool} {l : List Int} (h : bOk n l = true) : ∃ z : Int, n = decide (z < 0) ∧ l = digs z.natAbs ∧ z.natAbs < 10000 ^ 16 := by
  obtain ⟨h16, hr, ht, h0⟩ := bOk_of h
  refine ⟨sg n (num l), ?_, ?_, ?_⟩
  · unfold sg
    cases n with
    | false => simp
    | true =>
      have : l ≠ [] := fun e => by have := h0 e; cases this
      have := VI_pos hr ht this
      have h3 := num_spec hr
      simp; omega
  · have : (sg n (num l)).natAbs = num l := by unfold sg; split <;> omega
    rw [this, digs_num hr ht]
  · have : (sg n (num l)).natAbs = num l := by unfold sg; split <;> omega
    rw [this]
    have h1 := VI_lt hr
    rw [num_spec hr] at h1
    have h2 : num l < 10000 ^ l.length := by
      have : ((num l : Nat) : Int) < ((10000 ^ l.length : Nat) : Int) := by rw [Int.natCast_pow]; exact h1
      omega
    have h3 : 10000 ^ l.length ≤ 10000 ^ 16 := Nat.pow_le_pow_right (by omega) h16
    omega
theorem decOk_ex {n : Bool} {l : List Int} {s : Int} (h : decOk n l s = true) : ∃ (z : Int) (t : Nat), n = decide (z < 0) ∧ l = digs z.natAbs ∧ s = (t : Int) ∧ z.natAbs < 10 ^ 30 ∧ t ≤ 12 := by
  obtain ⟨h1, h2, t, h3, h4⟩ := decOk_of h
  obtain ⟨z, rfl, rfl, _⟩ := bOk_ex h1
  refine ⟨z, t, rfl, rfl, h3, ?_, h4⟩
  have h5 : ¬ ¬ z.natAbs < 10 ^ 30 := fun h' => by have := (long30 z.natAbs).2 h'; omega
  exact Decidable.not_not.1 h5
theorem sg_abs (n : Bool) (A : Nat) : (sg n A).natAbs = A := by unfold sg; split <;> omega
theorem made_mk (n : Bool) (A s : Nat) : made n A (s : Int) = mk (sg n A) s := by
  unfold made mk
  rw [sg_abs]
  have h := long30 A
  by_cases hA : A < 10 ^ 30
  · rw [if_neg (fun h' => h.1 h' hA), if_pos hA]
    unfold D
    rw [sg_abs, len_gt]
    have : (n && decide (A ≠ 0)) = decide (sg n A < 0) := by
      unfold sg
      cases n with
      | false => simp
      | true =>
        simp only [Bool.true_and, if_true]
        congr 1
        exact propext ⟨fun h => by omega, fun h => by omega⟩
    rw [this]
  · rw [if_pos (h.2 hA), if_neg hA]
theorem sg_sum (na : Bool) (A : Nat) (nb : Bool) (B : Nat) : sg (sSum na A nb B).1 (sSum na A nb B).2 = sg na A + sg nb B := by
  unfold sSum
  split
  · subst_vars
    unfold sg
    split <;> simp <;> omega
  · split
    · rename_i h1 h2
      unfold sg
      cases na <;> cases nb <;> simp_all <;> omega
    · rename_i h1 h2
      unfold sg
      cases na <;> cases nb <;> simp_all <;> omega
theorem sg_D (z : Int) : sg (decide (z < 0)) z.natAbs = z := by
  unfold sg
  by_cases h : z < 0
  · rw [if_pos (decide_eq_true h)]; omega
  · rw [if_neg (by simpa using h)]; omega
theorem sg_Dn (z : Int) : sg (!decide (z < 0)) z.natAbs = -z := by
  unfold sg
  by_cases h : z < 0
  · rw [decide_eq_true h]; simp; omega
  · rw [decide_eq_false h]; simp; omega
theorem sg_mul (n : Bool) (A k : Nat) : sg n (A * k) = sg n A * k := by
  unfold sg
  split
  · rw [Int.natCast_mul, Int.neg_mul]
  · rw [Int.natCast_mul]
theorem dSum_D {z1 z2 : Int} {s1 s2 : Nat} (h1 : z1.natAbs < 10 ^ 30) (h2 : z2.natAbs < 10 ^ 30) (t1 : s1 ≤ 12) (t2 : s2 ≤ 12) :
    dSum (decide (z1 < 0)) (digs z1.natAbs) (s1 : Int) (decide (z2 < 0)) (digs z2.natAbs) (s2 : Int) (decide (z2 < 0)) = mk (z1 * 10 ^ (max s1 s2 - s1) + z2 * 10 ^ (max s1 s2 - s2)) (max s1 s2) := by
  unfold dSum
  rw [if_pos ⟨decOk_D h1 t1, decOk_D h2 t2⟩, Int.toNat_natCast, Int.toNat_natCast, made_mk, sg_sum, sg_mul, sg_mul, num_digs, num_digs, sg_D, sg_D]
  simp only [Int.natCast_pow]
  rfl
theorem dSub_D {z1 z2 : Int} {s1 s2 : Nat} (h1 : z1.natAbs < 10 ^ 30) (h2 : z2.natAbs < 10 ^ 30) (t1 : s1 ≤ 12) (t2 : s2 ≤ 12) :
    dSum (decide (z1 < 0)) (digs z1.natAbs) (s1 : Int) (decide (z2 < 0)) (digs z2.natAbs) (s2 : Int) (!decide (z2 < 0)) = mk (z1 * 10 ^ (max s1 s2 - s1) - z2 * 10 ^ (max s1 s2 - s2)) (max s1 s2) := by
  unfold dSum
  rw [if_pos ⟨decOk_D h1 t1, decOk_D h2 t2⟩, Int.toNat_natCast, Int.toNat_natCast, made_mk, sg_sum, sg_mul, sg_mul, num_digs, num_digs, sg_D, sg_Dn]
  simp only [Int.natCast_pow, Int.neg_mul]
  rfl
def cmpZ (x y : Int) : Int := if x < y then -1 else if x = y then 0 else 1
theorem sCmp_sg {na nb : Bool} {A B : Nat} (ha : na = true → 0 < A) (hb : nb = true → 0 < B) : sCmp na A nb B = cmpZ (sg na A) (sg nb B) := by
  unfold sCmp cmpZ sg cmpI
  cases na <;> cases nb <;> simp at ha hb ⊢ <;> (repeat' split) <;> omega
theorem pow10_pos (k : Nat) : (0 : Int) < 10 ^ k := Int.pow_pos (by omega)
theorem dCmp_D {z1 z2 : Int} {s1 s2 : Nat} : dCmp (decide (z1 < 0)) (digs z1.natAbs) s1 (decide (z2 < 0)) (digs z2.natAbs) s2 = cmpZ (z1 * 10 ^ (max s1 s2 - s1)) (z2 * 10 ^ (max s1 s2 - s2)) := by
  unfold dCmp
  rw [num_digs, num_digs, sCmp_sg, sg_mul, sg_mul, sg_D, sg_D]
  · simp only [Int.natCast_pow]; rfl
  · intro h
    have : z1 < 0 := by simpa using h
    exact Nat.mul_pos (by omega) (Nat.pow_pos (by omega))
  · intro h
    have : z2 < 0 := by simpa using h
    exact Nat.mul_pos (by omega) (Nat.pow_pos (by omega))
/-- a quotient that is rounded, with sign -/
def rdiv (mode : Int) (z : Int) (d : Nat) : Int := sg (decide (z < 0)) (rquo (decide (z < 0)) z.natAbs d mode)
theorem dRound_D {z : Int} {s sc : Nat} {mode : Int} (h : z.natAbs < 10 ^ 30) (t : s ≤ 12) (hc : sc ≤ 12) (hm : 1 ≤ mode ∧ mode ≤ 7) :
    dRound (decide (z < 0)) (digs z.natAbs) (s : Int) (sc : Int) mode = if s ≤ sc then mk (z * 10 ^ (sc - s)) sc else mk (rdiv mode z (10 ^ (s - sc))) sc := by
  unfold dRound
  rw [if_pos ⟨decOk_D h t, by unfold within; simp; omega, by unfold within; simp; omega⟩, Int.toNat_natCast, Int.toNat_natCast]
  split
  · rw [made_mk, sg_mul, num_digs, sg_D]
    simp only [Int.natCast_pow]; rfl
  · rw [made_mk, num_digs]
    rfl
theorem sg_neg_zero (n : Bool) : sg n 0 = 0 := by unfold sg; split <;> rfl
theorem rquo_zero (n : Bool) (d : Nat) (mode : Int) : rquo n 0 d mode = 0 := by unfold rquo; simp
theorem neg_mul_lt {x y : Int} (hx : x < 0) (hy : 0 < y) : x * y < 0 := Int.mul_neg_of_neg_of_pos hx hy
/-- the sign of a product -/
theorem mul_neg (x y : Int) (h : x * y ≠ 0) : (!(decide (x < 0) == decide (y < 0))) = decide (x * y < 0) := by
  have hx : x ≠ 0 := fun e => h (by rw [e]; simp)
  have hy : y ≠ 0 := fun e => h (by rw [e]; simp)
  by_cases h1 : x < 0 <;> by_cases h2 : y < 0
  · have := Int.mul_pos_of_neg_of_neg h1 h2
    simp [h1, h2]; omega
  · have := Int.mul_neg_of_neg_of_pos h1 (show 0 < y by omega)
    simp [h1, h2]; omega
  · have := Int.mul_neg_of_pos_of_neg (show 0 < x by omega) h2
    simp [h1, h2]; omega
  · have := Int.mul_pos (show 0 < x by omega) (show 0 < y by omega)
    simp [h1, h2]; omega
theorem sg_prod (x y : Int) : sg (!(decide (x < 0) == decide (y < 0))) (x.natAbs * y.natAbs) = x * y := by
  rw [← Int.natAbs_mul]
  by_cases h : x * y = 0
  · rw [h]; exact sg_neg_zero _
  · rw [mul_neg x y h, sg_D]
theorem rdiv_prod (x y : Int) (d : Nat) (mode : Int) : sg (!(decide (x < 0) == decide (y < 0))) (rquo (!(decide (x < 0) == decide (y < 0))) (x.natAbs * y.natAbs) d mode) = rdiv mode (x * y) d := by
  rw [← Int.natAbs_mul]
  by_cases h : x * y = 0
  · rw [h]
    unfold rdiv
    rw [show (0 : Int).natAbs = 0 from rfl, rquo_zero, rquo_zero, sg_neg_zero, sg_neg_zero]
  · rw [mul_neg x y h]
    rfl
theorem dMul_D {z1 z2 : Int} {s1 s2 : Nat} (h1 : z1.natAbs < 10 ^ 30) (h2 : z2.natAbs < 10 ^ 30) (t1 : s1 ≤ 12) (t2 : s2 ≤ 12) :
    dMul (decide (z1 < 0)) (digs z1.natAbs) (s1 : Int) (decide (z2 < 0)) (digs z2.natAbs) (s2 : Int) = if s1 + s2 > 12 then mk (rdiv 7 (z1 * z2) (10 ^ (s1 + s2 - 12))) 12 else mk (z1 * z2) (s1 + s2) := by
  unfold dMul
  rw [if_pos ⟨decOk_D h1 t1, decOk_D h2 t2⟩, Int.toNat_natCast, Int.toNat_natCast, num_digs, num_digs]
  by_cases h : s1 + s2 > 12
  · rw [if_pos (by omega), if_pos h, show (12 : Int) = ((12 : Nat) : Int) from rfl, made_mk, rdiv_prod]
  · rw [if_neg (by omega), if_neg h, ← Int.natCast_add, made_mk, sg_prod]
theorem trimN_spec : ∀ (s V : Nat), (trimN V s).2 ≤ s ∧ (trimN V s).1 * 10 ^ (s - (trimN V s).2) = V ∧ ((trimN V s).2 = 0 ∨ (trimN V s).1 % 10 ≠ 0)
  | 0, V => by simp [trimN]
  | s + 1, V => by
    rw [trimN]
    split
    · obtain ⟨h1, h2, h3⟩ := trimN_spec s (V / 10)
      refine ⟨by omega, ?_, h3⟩
      rw [show s + 1 - (trimN (V / 10) s).2 = (s - (trimN (V / 10) s).2) + 1 by omega, Nat.pow_succ, ← Nat.mul_assoc, h2]
      omega
    · exact ⟨Nat.le_refl _, by simp, .inr (by assumption)⟩
theorem trimN_same {s V : Nat} (h : s = 0 ∨ V % 10 ≠ 0) : trimN V s = (V, s) := by
  cases s with
  | zero => rfl
  | succ s =>
    rw [trimN, if_neg (by omega)]
theorem dTrim_D {z : Int} {s : Nat} (h : z.natAbs < 10 ^ 30) (t : s ≤ 12) : ∃ (y : Int) (r : Nat), dTrim (decide (z < 0)) (digs z.natAbs) (s : Int) = D y r ∧ y.natAbs < 10 ^ 30 ∧ r ≤ s ∧ y * 10 ^ (s - r) = z ∧ (r = 0 ∨ y % 10 ≠ 0) := by
  obtain ⟨h1, h2, h3⟩ := trimN_spec s z.natAbs
  refine ⟨sg (decide (z < 0)) (trimN z.natAbs s).1, (trimN z.natAbs s).2, ?_, ?_, h1, ?_, ?_⟩
  · unfold dTrim
    rw [if_pos (decOk_D h t), Int.toNat_natCast, num_digs]
    unfold D
    rw [sg_abs]
    refine Prod.ext ?_ rfl
    show decide (z < 0) = decide (sg _ _ < 0)
    unfold sg
    by_cases hz : z < 0
    · have : (trimN z.natAbs s).1 ≠ 0 := fun e => by rw [e, Nat.zero_mul] at h2; omega
      simp [hz]; omega
    · simp [hz]
  · rw [sg_abs]
    have : (trimN z.natAbs s).1 ≤ z.natAbs := by
      conv => rhs; rw [← h2]
      exact Nat.le_mul_of_pos_right _ (Nat.pow_pos (by omega))
    omega
  · have : sg (decide (z < 0)) ((trimN z.natAbs s).1 * 10 ^ (s - (trimN z.natAbs s).2)) = z := by rw [h2, sg_D]
    rw [sg_mul, Int.natCast_pow] at this
    exact this
  · rcases h3 with h3 | h3
    · exact .inl h3
    · right
      unfold sg
      split <;> omega
theorem dTrim_same {z : Int} {s : Nat} (h : z.natAbs < 10 ^ 30) (t : s ≤ 12) (h3 : s = 0 ∨ z % 10 ≠ 0) : dTrim (decide (z < 0)) (digs z.natAbs) (s : Int) = D z s := by
  unfold dTrim
  rw [if_pos (decOk_D h t), Int.toNat_natCast, num_digs, trimN_same (by rcases h3 with h3 | h3; exact .inl h3; right; omega)]
  rfl
end Go.Proofs.YtiojgdjpigcgaaaGreatDoor.R
end

section
/-! Rf: values in order, types in order. -/
set_option autoImplicit false
set_option linter.unusedSimpArgs false
set_option linter.unusedVariables false
namespace Go.Proofs.YtiojgdjpigcgaaaGreatDoor.R
open Go.Rf
def bAt (s : ByteArray) (i : Nat) : Int := match s[i]? with
  | some u => (u.toNat : Int)
  | none => 0
theorem byteAt {s : ByteArray} {i : Nat} (h : i < s.size) : ∃ u : UInt8, s[i]? = some u ∧ bAt s i = (u.toNat : Int) := by
  have : s[i]? = some s[i] := getElem?_pos s i h
  exact ⟨s[i], this, by unfold bAt; rw [this]⟩
def figOk (s : ByteArray) : Bool := (List.range s.size).all fun i => within (bAt s i) 32 126
def textOk (s : ByteArray) : Bool := decide ((s.size : Int) ≤ 12) && figOk s
def noText (s : ByteArray) : Bool := s.toList == (⟨#[]⟩ : ByteArray).toList
def decZ (n : Bool) (l : List Int) (s : Int) : Bool := !n && (((l.length : Int) == 0) && (s == 0))
def dayOk (d : Int) : Bool := within d 1 3652059
def spanOk (m d : Int) : Bool := within m (-120000) 120000 && within d (-4000000) 4000000
/-- nothing but what the kind bears -/
def bareOk (k : Int) (y n : Bool) (l : List Int) (s day mo da : Int) (t : ByteArray) : Bool := ((k == 1) || !y) && (((k == 2) || decZ n l s) && (((k == 3) || (day == 0)) && (((k == 4) || ((mo == 0) && (da == 0))) && ((k == 5) || noText t))))
def bodyOk (k : Int) (n : Bool) (l : List Int) (s day mo da : Int) (t : ByteArray) : Bool := if k = 2 then decOk n l s else if k = 3 then dayOk day else if k = 4 then spanOk mo da else if k = 5 then textOk t else true
def vOk (k : Int) (y n : Bool) (l : List Int) (s day mo da : Int) (t : ByteArray) : Bool := within k 0 5 && (bareOk k y n l s day mo da t && bodyOk k n l s day mo da t)
theorem noText_ok {t : ByteArray} (h : noText t = true) : textOk t = true := by
  have h2 : t.data.toList = [] := by
    have h1 := eq_of_beq h
    rw [Lib.toList_data, Lib.toList_data] at h1
    exact h1
  have h3 : t.size = 0 := by
    show t.data.size = 0
    rw [← Array.length_toList, h2]; rfl
  unfold textOk figOk
  rw [h3]
  rfl
section
variable (k0 : Int) (y n : Bool) (l : List Int) (s day mo da : Int) (t : ByteArray)
theorem l4Zero_ev : Ev (fun k => F122 k n l s) ((decZ n l s, ()), (((), (), (), ()), ())) := by
  refine Ev.step 2 (fun k => F122_eq k _ _ _) (Ev.congr (h := fun _ => some ((decZ n l s, ()), (((), (), (), ()), ()))) (fun _ => ?_) (Ev.now _))
  unfold decZ
  cases n <;> cases h : ((l.length : Int) == 0) <;> simp_all
theorem zero_ev : Ev (fun k => F74 k n l s) ((decZ n l s, ()), (((), (), (), ()), ())) := by
  refine Ev.step 2 (fun k => F74_eq k _ _ _) (Ev.congr (h := fun _ => some ((decZ n l s, ()), (((), (), (), ()), ()))) (fun _ => ?_) (Ev.now _))
  unfold decZ
  cases n <;> cases h : ((l.length : Int) == 0) <;> simp_all
theorem isDay_ev : Ev (fun k => F72 k day) ((dayOk day, ()), ((), ())) := Ev.step 2 (fun k => F72_eq k _) (Ev.bind (in_ev day 1 3652059) (Ev.now _))
theorem l3Is_ev : Ev (fun k => F80 k day) ((dayOk day, ()), ((), ())) := Ev.step 2 (fun k => F80_eq k _) (Ev.bind (l1In_ev day 1 3652059) (Ev.now _))
theorem SpanOk_ev : Ev (fun k => F73 k mo da) ((spanOk mo da, ()), (((), (), ()), ())) := by
  refine Ev.step 2 (fun k => F73_eq k _ _) (Ev.bind (in_ev mo _ _) ?_)
  unfold spanOk
  cases within mo (-120000) 120000 with
  | true => exact Ev.bind (in_ev da _ _) (Ev.now _)
  | false => exact Ev.now _
theorem l3SpanOk_ev : Ev (fun k => F81 k mo da) ((spanOk mo da, ()), (((), (), ()), ())) := by
  refine Ev.step 2 (fun k => F81_eq k _ _) (Ev.bind (l1In_ev mo _ _) ?_)
  unfold spanOk
  cases within mo (-120000) 120000 with
  | true => exact Ev.bind (l1In_ev da _ _) (Ev.now _)
  | false => exact Ev.now _
theorem l4Text_ev (hsz : t.size ≤ 9223372036854775807) : Ev (fun k => F82 k t) ((textOk t, ()), ((), ())) := by
  refine Ev.step 2 (fun k => F82_eq k _) ?_
  have h := all_loop (L := fun k i => F82c2 k t i) (n := t.size) (no := ((false, ()), ((), ()))) (yes := ((decide ((t.size : Int) ≤ 12), ()), ((), ()))) (c := fun i => within (bAt t i) 32 126)
    (fun i hi hc => by
      obtain ⟨u, hu, hb⟩ := byteAt hi
      rw [hb] at hc
      refine Ev.step 1 (fun k => F82c2_eq k _ _) ?_
      simp only [lt_true hi, ge0, if_true, Int.toNat_natCast, hu, Option.bind_some]
      unfold within at hc
      by_cases h1 : (u.toNat : Int) < 32
      · simp only [decide_eq_true h1, if_true]; exact Ev.now _
      · have h2 : (u.toNat : Int) > 126 := by
          refine Decidable.by_contra fun h2 => ?_
          rw [decide_eq_true (show (u.toNat : Int) ≥ 32 by omega), decide_eq_true (show (u.toNat : Int) ≤ 126 by omega)] at hc
          cases hc
        simp only [decide_eq_false h1, decide_eq_true h2, Bool.false_eq_true, if_false, if_true]; exact Ev.now _)
    (fun i hi hc r hr => by
      obtain ⟨u, hu, hb⟩ := byteAt hi
      rw [hb] at hc
      unfold within at hc
      rw [Bool.and_eq_true, decide_eq_true_iff, decide_eq_true_iff] at hc
      refine Ev.step 1 (fun k => F82c2_eq k _ _) ?_
      simp only [lt_true hi, ge0, if_true, Int.toNat_natCast, hu, Option.bind_some, decide_eq_false (show ¬ (u.toNat : Int) < 32 by omega), decide_eq_false (show ¬ (u.toNat : Int) > 126 by omega), Bool.false_eq_true, if_false, wrap_succ (show i < 9223372036854775807 by omega)]
      exact hr)
    (by
      refine Ev.step 1 (fun k => F82c2_eq k _ _) ?_
      simp only [lt_false (Nat.le_refl t.size), Bool.false_eq_true, if_false]
      exact Ev.now _)
  have e : (if (List.range t.size).all (fun i => within (bAt t i) 32 126) = true then ((decide ((t.size : Int) ≤ 12), ()), ((), ())) else ((false, ()), ((), ()))) = ((textOk t, ()), ((), ())) := by
    unfold textOk figOk
    cases (List.range t.size).all (fun i => within (bAt t i) 32 126) <;> simp
  rw [e] at h
  exact h
/-- what is left of a value: nothing -/
def restZ (y n : Bool) (l : List Int) (s day mo da : Int) (t : ByteArray) : Bool := !y && (decZ n l s && ((day == 0) && (((mo == 0) && (da == 0)) && noText t)))
theorem okC21 (b : Bool) : Ev (fun k => F33c21 k k0 y n l s day mo da t b) ((b && restZ y n l s day mo da t, ()), (((), (), (), (), (), (), (), (), (), ()), ())) := by
  refine Ev.step 1 (fun k => F33c21_eq k _ _ _ _ _ _ _ _ _ _) ?_
  unfold restZ noText
  cases b with
  | false => simp only [Bool.false_eq_true, if_false, Bool.false_and]; exact Ev.now _
  | true =>
    cases y with
    | true => simp only [Bool.not_true, Bool.false_eq_true, if_false, if_true, Bool.true_and, Bool.false_and]; exact Ev.now _
    | false =>
      simp only [Bool.not_false, if_true, Bool.true_and]
      refine Ev.bind (zero_ev n l s) (Ev.congr (h := fun _ => some ((decZ n l s && ((day == 0) && (((mo == 0) && (da == 0)) && (t.toList == (⟨#[]⟩ : ByteArray).toList))), ()), (((), (), (), (), (), (), (), (), (), ()), ()))) (fun _ => ?_) (Ev.now _))
      cases decZ n l s <;> cases h1 : (day == 0) <;> cases h2 : (mo == 0) <;> cases h3 : (da == 0) <;> simp
theorem okC17 (hsz : t.size ≤ 9000000000000000000) (t3 : ByteArray) : ∀ (m i : Nat) (b : Bool), i + m = t.size → Ev (fun k => F33c17 k k0 y n l s day mo da t k0 y n l s day mo da t3 b (t.size : Int) (i : Int)) (((b && (List.range' i m).all fun i => within (bAt t i) 32 126) && restZ y n l s day mo da t3, ()), (((), (), (), (), (), (), (), (), (), ()), ())) := by
  intro m
  induction m with
  | zero =>
    intro i b hi
    refine Ev.step 1 (fun k => F33c17_eq k _ _ _ _ _ _ _ _ _ _ _ _ _ _ _ _ _ _ _ _ _) ?_
    simp only [lt_false (show t.size ≤ i by omega), Bool.false_eq_true, if_false]
    have := okC21 k0 y n l s day mo da t3 b
    simpa using this
  | succ m ih =>
    intro i b hi
    obtain ⟨u, hu, hb⟩ := byteAt (s := t) (i := i) (by omega)
    refine Ev.step 1 (fun k => F33c17_eq k _ _ _ _ _ _ _ _ _ _ _ _ _ _ _ _ _ _ _ _ _) ?_
    rw [List.range'_succ, List.all_cons]
    cases b with
    | false =>
      have := ih (i + 1) false (by omega)
      rw [Bool.false_and] at this ⊢
      simp only [lt_true (show i < t.size by omega), if_true, Bool.false_eq_true, if_false, wrap_succ (show i < 9223372036854775807 by omega)]
      exact this
    | true =>
      have := ih (i + 1) (within (bAt t i) 32 126) (by omega)
      have hlt : u.toNat < 256 := UInt8.toNat_lt u
      simp only [lt_true (show i < t.size by omega), ge0, if_true, Int.toNat_natCast, hu, Option.bind_some, wrap64 (show -9223372036854775808 ≤ ((u.toNat : Nat) : Int) by omega) (by omega), wrap_succ (show i < 9223372036854775807 by omega), Bool.true_and]
      refine Ev.bind (in_ev _ _ _) ?_
      rw [← hb]
      exact this
theorem ValueOk_ev (hl : l.length ≤ 1048576) (ht : t.size ≤ 1048576) : Ev (fun k => F33 k k0 y n l s day mo da t) ((vOk k0 y n l s day mo da t, ()), (((), (), (), (), (), (), (), (), (), ()), ())) := by
  refine Ev.step 2 (fun k => F33_eq k _ _ _ _ _ _ _ _ _) ?_
  by_cases h0 : k0 = 0
  · subst h0
    have := okC21 0 y n l s day mo da t true
    have e : vOk 0 y n l s day mo da t = (true && restZ y n l s day mo da t) := by simp [vOk, within, bareOk, bodyOk, restZ]
    rw [e]
    simp only [beq_self_eq_true, if_true]
    exact this
  by_cases h1 : k0 = 1
  · subst h1
    have := okC21 1 false n l s day mo da t true
    have e : vOk 1 y n l s day mo da t = (true && restZ false n l s day mo da t) := by simp [vOk, within, bareOk, bodyOk, restZ]
    rw [e]
    simp only [show ((1 : Int) == 0) = false from rfl, beq_self_eq_true, Bool.false_eq_true, if_false, if_true]
    exact this
  by_cases h2 : k0 = 2
  · subst h2
    have := okC21 2 y false [] 0 day mo da t (decOk n l s)
    have e : vOk 2 y n l s day mo da t = (decOk n l s && restZ y false [] 0 day mo da t) := by
      simp [vOk, within, bareOk, bodyOk, restZ, decZ, Bool.and_comm, Bool.and_assoc]
    rw [e]
    simp only [show ((2 : Int) == 0) = false from rfl, show ((2 : Int) == 1) = false from rfl, beq_self_eq_true, Bool.false_eq_true, if_false, if_true]
    exact Ev.bind (DecOk_ev n l s hl) this
  by_cases h3 : k0 = 3
  · subst h3
    have := okC21 3 y n l s 0 mo da t (dayOk day)
    have e : vOk 3 y n l s day mo da t = (dayOk day && restZ y n l s 0 mo da t) := by
      simp [vOk, within, bareOk, bodyOk, restZ, Bool.and_comm, Bool.and_assoc, Bool.and_left_comm]
    rw [e]
    simp only [show ((3 : Int) == 0) = false from rfl, show ((3 : Int) == 1) = false from rfl, show ((3 : Int) == 2) = false from rfl, beq_self_eq_true, Bool.false_eq_true, if_false, if_true]
    exact Ev.bind (isDay_ev day) this
  by_cases h4 : k0 = 4
  · subst h4
    have := okC21 4 y n l s day 0 0 t (spanOk mo da)
    have e : vOk 4 y n l s day mo da t = (spanOk mo da && restZ y n l s day 0 0 t) := by
      simp [vOk, within, bareOk, bodyOk, restZ, Bool.and_comm, Bool.and_assoc, Bool.and_left_comm]
    rw [e]
    simp only [show ((4 : Int) == 0) = false from rfl, show ((4 : Int) == 1) = false from rfl, show ((4 : Int) == 2) = false from rfl, show ((4 : Int) == 3) = false from rfl, beq_self_eq_true, Bool.false_eq_true, if_false, if_true]
    exact Ev.bind (SpanOk_ev mo da) this
  by_cases h5 : k0 = 5
  · subst h5
    have := okC17 5 y n l s day mo da t (by omega) ⟨#[]⟩ t.size 0 (decide ((t.size : Int) ≤ 12)) (by omega)
    rw [← List.range_eq_range'] at this
    have e : vOk 5 y n l s day mo da t = ((decide ((t.size : Int) ≤ 12) && (List.range t.size).all fun i => within (bAt t i) 32 126) && restZ y n l s day mo da ⟨#[]⟩) := by
      have hn : noText ⟨#[]⟩ = true := by unfold noText; exact beq_self_eq_true _
      simp only [vOk, bareOk, bodyOk, restZ, hn, textOk, figOk]
      simp [within, Bool.and_comm, Bool.and_assoc, Bool.and_left_comm]
    rw [e]
    simp only [show ((5 : Int) == 0) = false from rfl, show ((5 : Int) == 1) = false from rfl, show ((5 : Int) == 2) = false from rfl, show ((5 : Int) == 3) = false from rfl, show ((5 : Int) == 4) = false from rfl, beq_self_eq_true, Bool.false_eq_true, if_false, if_true]
    exact this
  · have := okC21 k0 y n l s day mo da t false
    have e : vOk k0 y n l s day mo da t = (false && restZ y n l s day mo da t) := by
      have : within k0 0 5 = false := by unfold within; simp; omega
      simp [vOk, this]
    rw [e]
    simp only [beq_eq_false_iff_ne.2 h0, beq_eq_false_iff_ne.2 h1, beq_eq_false_iff_ne.2 h2, beq_eq_false_iff_ne.2 h3, beq_eq_false_iff_ne.2 h4, beq_eq_false_iff_ne.2 h5, Bool.false_eq_true, if_false]
    exact this
theorem bare_ev : Ev (fun k => F78 k k0 y n l s day mo da t) ((bareOk k0 y n l s day mo da t, ()), (((), (), (), (), (), (), (), (), (), ()), ())) := by
  refine Ev.step 2 (fun k => F78_eq k _ _ _ _ _ _ _ _ _) ?_
  have hz := l4Zero_ev n l s
  unfold bareOk noText
  have fin : ∀ {g : Nat → Option ((Bool × Unit) × ((Unit × Unit × Unit × Unit × Unit × Unit × Unit × Unit × Unit × Unit) × Unit))} {v}, (∀ k, g k = some v) → Ev g v := fun h => Ev.congr h (Ev.now _)
  by_cases h1 : k0 = 1
  · subst h1
    simp only [bne_self_eq_false, Bool.false_eq_true, if_false, show ((1 : Int) != 2) = true from rfl, show ((1 : Int) != 4) = true from rfl, if_true, show ((1 : Int) == 3) = false from rfl, show ((1 : Int) == 5) = false from rfl]
    refine Ev.bind hz (fin fun _ => ?_)
    cases decZ n l s <;> by_cases g1 : mo = 0 <;> by_cases g2 : da = 0 <;> by_cases g3 : day = 0 <;> simp [g1, g2, g3]
  by_cases h2 : k0 = 2
  · subst h2
    simp only [bne_self_eq_false, Bool.false_eq_true, if_false, show ((2 : Int) != 1) = true from rfl, show ((2 : Int) != 4) = true from rfl, if_true, show ((2 : Int) == 3) = false from rfl, show ((2 : Int) == 5) = false from rfl]
    refine fin fun _ => ?_
    cases y <;> by_cases g1 : mo = 0 <;> by_cases g2 : da = 0 <;> by_cases g3 : day = 0 <;> simp [g1, g2, g3]
  have e1 : (k0 != 1) = true := bne_iff_ne.2 h1
  have e2 : (k0 != 2) = true := bne_iff_ne.2 h2
  have f1 : (k0 == 1) = false := beq_eq_false_iff_ne.2 h1
  have f2 : (k0 == 2) = false := beq_eq_false_iff_ne.2 h2
  simp only [e1, e2, f1, f2, if_true]
  cases y with
  | true =>
    simp only [if_true]
    refine fin fun _ => ?_
    simp
  | false =>
    simp only [Bool.false_eq_true, if_false]
    refine Ev.bind hz (fin fun _ => ?_)
    by_cases h4 : k0 = 4
    · subst h4
      cases decZ n l s <;> by_cases g1 : mo = 0 <;> by_cases g2 : da = 0 <;> by_cases g3 : day = 0 <;> simp [g1, g2, g3]
    · by_cases h3 : k0 = 3
      · subst h3
        cases decZ n l s <;> by_cases g1 : mo = 0 <;> by_cases g2 : da = 0 <;> by_cases g3 : day = 0 <;> simp [g1, g2, g3]
      · by_cases h5 : k0 = 5
        · subst h5
          cases decZ n l s <;> by_cases g1 : mo = 0 <;> by_cases g2 : da = 0 <;> by_cases g3 : day = 0 <;> simp [g1, g2, g3]
        · cases decZ n l s <;> by_cases g1 : mo = 0 <;> by_cases g2 : da = 0 <;> by_cases g3 : day = 0 <;> simp [g1, g2, g3, h3, h4, h5]
theorem l4Ok_ev (hl : l.length ≤ 1048576) (ht : t.size ≤ 1048576) : Ev (fun k => F35 k k0 y n l s day mo da t) ((vOk k0 y n l s day mo da t, ()), (((), (), (), (), (), (), (), (), (), ()), ())) := by
  refine Ev.step 2 (fun k => F35_eq k _ _ _ _ _ _ _ _ _) (Ev.bind (l1In_ev k0 0 5) ?_)
  unfold vOk
  cases hw : within k0 0 5 with
  | false => simp only [Bool.not_false, if_true, Bool.false_and]; exact Ev.now _
  | true =>
    simp only [Bool.not_true, Bool.false_eq_true, if_false, Bool.true_and]
    refine Ev.bind (bare_ev k0 y n l s day mo da t) ?_
    cases hb : bareOk k0 y n l s day mo da t with
    | false => simp only [Bool.not_false, if_true, Bool.false_and]; exact Ev.now _
    | true =>
      simp only [Bool.not_true, Bool.false_eq_true, if_false, Bool.true_and]
      unfold bodyOk
      by_cases h2 : k0 = 2
      · simp only [h2, beq_self_eq_true, if_true]
        exact Ev.bind (l2Ok_ev n l s hl) (Ev.now _)
      by_cases h3 : k0 = 3
      · simp only [h3, show ((3 : Int) == 2) = false from rfl, show ¬ ((3 : Int) = 2) by decide, beq_self_eq_true, Bool.false_eq_true, if_false, if_true]
        exact Ev.bind (l3Is_ev day) (Ev.now _)
      by_cases h4 : k0 = 4
      · simp only [h4, show ((4 : Int) == 2) = false from rfl, show ((4 : Int) == 3) = false from rfl, show ¬ ((4 : Int) = 2) by decide, show ¬ ((4 : Int) = 3) by decide, beq_self_eq_true, Bool.false_eq_true, if_false, if_true]
        exact Ev.bind (l3SpanOk_ev mo da) (Ev.now _)
      simp only [beq_eq_false_iff_ne.2 h2, beq_eq_false_iff_ne.2 h3, beq_eq_false_iff_ne.2 h4, h2, h3, h4, Bool.false_eq_true, if_false]
      by_cases h5 : k0 = 5
      · simp only [h5, if_true]
        exact Ev.bind (l4Text_ev t (by omega)) (Ev.now _)
      · have hnt : noText t = true := by
          unfold bareOk at hb
          rw [beq_eq_false_iff_ne.2 h5] at hb
          simp only [Bool.and_eq_true, Bool.false_or] at hb
          exact hb.2.2.2.2
        have htx := l4Text_ev t (by omega)
        rw [noText_ok hnt] at htx
        simp only [h5, if_false]
        exact Ev.bind htx (Ev.now _)
end
end Go.Proofs.YtiojgdjpigcgaaaGreatDoor.R
end

section
/-! Rf: values: what the laws ask of them; values that fit types. -/
set_option autoImplicit false
set_option linter.unusedSimpArgs false
set_option linter.unusedVariables false
namespace Go.Proofs.YtiojgdjpigcgaaaGreatDoor.R
open Go.Rf
def tOk (k dg sc : Int) : Bool := if k = 2 then within dg 1 30 && (within sc 0 12 && decide (sc ≤ dg)) else within k 1 5 && ((dg == 0) && (sc == 0))
/-- a value in order fits a type in order -/
def fits (k : Int) (l : List Int) (s tk dg sc : Int) : Bool := if k = 0 then true else if k ≠ tk then false else if k ≠ 2 then true else (s == sc) && decide (long l ≤ dg)
section
variable (k0 : Int) (y n : Bool) (l : List Int) (s day mo da : Int) (t : ByteArray) (tk dg sc : Int)
theorem vOk_num (h : vOk k0 y n l s day mo da t = true) (h2 : k0 = 2) : decOk n l s = true := by
  unfold vOk bodyOk at h
  rw [if_pos h2] at h
  simp only [Bool.and_eq_true] at h
  exact h.2.2
/-- does a value fit? -/
def vFits : Bool := vOk k0 y n l s day mo da t && (tOk tk dg sc && fits k0 l s tk dg sc)
theorem toValue_ev (hl : l.length ≤ 1048576) : Ev (fun k => F25 k k0 y n l s day mo da t) (((k0, y, n, l, s, day, mo, da, t, ()), ()), (((), (), (), (), (), (), (), (), (), ()), ())) :=
  Ev.step 2 (fun k => F25_eq k _ _ _ _ _ _ _ _ _) (Ev.bind (toDec_ev n l s hl) (Ev.bind (Ev.step 2 (fun k => F68_eq k _ _) (Ev.now _)) (Ev.now _)))
theorem eqValue_ev (hl : l.length ≤ 1048576) : Ev (fun k => F16 k k0 y n l s day mo da t k0 y n l s day mo da t) ((true, ()), (((), (), (), (), (), (), (), (), (), ()), ((), (), (), (), (), (), (), (), (), ()), ())) := by
  have hsp : Ev (fun k => F46 k mo da mo da) ((true, ()), (((), (), ()), ((), (), ()), ())) := by
    refine Ev.step 2 (fun k => F46_eq k _ _ _ _) ?_
    simp only [bne_self_eq_false, Bool.false_eq_true, if_false]
    exact Ev.now _
  refine Ev.step 2 (fun k => F16_eq k _ _ _ _ _ _ _ _ _ _ _ _ _ _ _ _ _ _) ?_
  simp only [bne_self_eq_false, beq_self_eq_true, Bool.not_true, Bool.false_eq_true, if_false]
  refine Ev.bind (eqDec_ev n l s hl) ?_
  simp only [Bool.not_true, Bool.false_eq_true, if_false]
  refine Ev.bind hsp ?_
  simp only [Bool.not_true, Bool.false_eq_true, if_false]
  exact Ev.now _
theorem szValue_ev (hlen : l.length ≤ 9223372036854775807) (htl : t.size ≤ 9223372036854775807) (b : Int) (h0 : 0 ≤ b) (hb : b ≤ 1048576) : ∃ r, Ev (fun k => F23 k k0 y n l s day mo da t b) r ∧ (r.1.1 < 0 ∨ (0 ≤ r.1.1 ∧ r.1.1 ≤ b ∧ l.length ≤ 1048576 ∧ t.size ≤ 1048576)) := by
  obtain ⟨q, g1, g2⟩ := szDec_ev n l s hlen b h0 hb
  rcases g2 with g2 | ⟨g2, g3, g4⟩
  · refine ⟨(((-1 : Int), ()), (((), (), (), (), (), (), (), (), (), ()), (), ())), Ev.step 2 (fun k => F23_eq k _ _ _ _ _ _ _ _ _ _) (Ev.bind g1 ?_), .inl (by show (-1 : Int) < 0; omega)⟩
    simp only [g2, decide_true, if_true]
    exact Ev.now _
  · have e : IntKind.i64.wrap (q.1.1 - (t.size : Int)) = q.1.1 - (t.size : Int) := wrap64 (by omega) (by omega)
    by_cases hn : q.1.1 - (t.size : Int) < 0
    · refine ⟨(((-1 : Int), ()), (((), (), (), (), (), (), (), (), (), ()), (), ())), Ev.step 2 (fun k => F23_eq k _ _ _ _ _ _ _ _ _ _) (Ev.bind g1 ?_), .inl (by show (-1 : Int) < 0; omega)⟩
      simp only [decide_eq_false (show ¬ q.1.1 < 0 by omega), Bool.false_eq_true, if_false, e, decide_eq_true hn, if_true]
      exact Ev.now _
    · refine ⟨((q.1.1 - (t.size : Int), ()), (((), (), (), (), (), (), (), (), (), ()), (), ())), Ev.step 2 (fun k => F23_eq k _ _ _ _ _ _ _ _ _ _) (Ev.bind g1 ?_), .inr ⟨by show 0 ≤ q.1.1 - (t.size : Int); omega, by show q.1.1 - (t.size : Int) ≤ b; omega, g4, by omega⟩⟩
      simp only [decide_eq_false (show ¬ q.1.1 < 0 by omega), Bool.false_eq_true, if_false, e, decide_eq_false hn]
      exact Ev.now _
end
end Go.Proofs.YtiojgdjpigcgaaaGreatDoor.R
end

section
/-! Rf: keys: bytes on both sides. -/
set_option autoImplicit false
set_option linter.unusedSimpArgs false
set_option linter.unusedVariables false
namespace Go.Proofs.YtiojgdjpigcgaaaGreatDoor.R
open Go.Rf
def ba (K : List UInt8) : ByteArray := ⟨K.toArray⟩
def ints (K : List UInt8) : List Int := K.map fun b => (b.toNat : Int)
def u8 (z : Int) : UInt8 := UInt8.ofNat (IntKind.u8.wrap z).toNat
theorem wrap8 (z : Int) : IntKind.u8.wrap z = z % 256 := by
  unfold IntKind.wrap IntKind.bits IntKind.signed
  simp
theorem u8w (z : Int) : IntKind.u8.wrap z = ((u8 z).toNat : Int) := by
  unfold u8
  rw [wrap8, UInt8.toNat_ofNat']
  have h1 : 0 ≤ z % 256 := by omega
  have h2 : z % 256 < 256 := by omega
  omega
theorem bytes_ints (K : List UInt8) : bytesOf (ints K) = ba K := by
  unfold bytesOf ints ba
  rw [List.map_map]
  congr 2
  refine (List.map_congr_left (fun b _ => ?_)).trans (List.map_id K)
  show UInt8.ofNat ((b.toNat : Int)).toNat = b
  rw [Int.toNat_natCast]
  simp
theorem ints_len (K : List UInt8) : (ints K).length = K.length := by unfold ints; simp
theorem ba_size (K : List UInt8) : (ba K).size = K.length := rfl
theorem ba_data (K : List UInt8) : (ba K).data.toList = K := rfl
theorem ints_app (K L : List UInt8) : ints K ++ ints L = ints (K ++ L) := by unfold ints; rw [List.map_append]
theorem ba_app (K L : List UInt8) : ba K ++ ba L = ba (K ++ L) := by
  have : ∀ x y : ByteArray, x.data.toList = y.data.toList → x = y := fun x y h => by
    rw [← Lib.mk_data x, ← Lib.mk_data y, h]
  refine this _ _ ?_
  simp [ba, ByteArray.data_append]
theorem ba_get (K : List UInt8) (i : Nat) : (ba K)[i]? = K[i]? := by
  rcases Nat.lt_or_ge i K.length with h | h
  · rw [List.getElem?_eq_getElem h, getElem?_pos (ba K) i h]
    rfl
  · rw [List.getElem?_eq_none h, getElem?_neg (ba K) i (by rw [ba_size]; omega)]
theorem ints_get (K : List UInt8) (i : Nat) : (ints K)[i]? = (K[i]?).map fun b => (b.toNat : Int) := by unfold ints; rw [List.getElem?_map]
theorem ints1 (z : Int) : [IntKind.u8.wrap z] = ints [u8 z] := by rw [u8w]; rfl
theorem of_data (t : ByteArray) : ba t.data.toList = t := Lib.mk_data t
def turn (b : UInt8) : UInt8 := u8 (255 - (b.toNat : Int))
def flip (K : List UInt8) : List UInt8 := K.map turn
theorem fill_set {g : List Int} {i : Nat} (h : i < g.length) : (g.take i ++ List.replicate (g.length - i) (0 : Int)).set i g[i] = g.take (i + 1) ++ List.replicate (g.length - (i + 1)) (0 : Int) := by
  have e : g.length - i = (g.length - (i + 1)) + 1 := by omega
  have hl : (g.take i).length = i := by rw [List.length_take]; omega
  rw [e, List.replicate_succ, List.set_append_right (h := by omega), hl, Nat.sub_self, List.set_cons_zero, List.take_add_one, List.getElem?_eq_getElem h, Option.toList_some, List.append_assoc, List.singleton_append]
theorem fill_len {g : List Int} {i : Nat} (h : i ≤ g.length) : (g.take i ++ List.replicate (g.length - i) (0 : Int)).length = g.length := by
  rw [List.length_append, List.length_take, List.length_replicate]; omega
theorem fill_get {g : List Int} {i : Nat} (h : i < g.length) : (g.take i ++ List.replicate (g.length - i) (0 : Int))[i]? = some 0 := by
  rw [List.getElem?_append_right (by rw [List.length_take]; omega), List.length_take, show i - min i g.length = 0 by omega]
  rw [List.getElem?_replicate, if_pos (by omega)]
theorem flip_len (K : List UInt8) : (flip K).length = K.length := by unfold flip; simp
theorem flip_get {K : List UInt8} {i : Nat} (h : i < K.length) : (ints (flip K))[i]'(by rw [ints_len, flip_len]; exact h) = IntKind.u8.wrap (255 - (K[i].toNat : Int)) := by
  rw [u8w]
  unfold ints flip turn
  simp
theorem turned_ev (K : List UInt8) (hK : K.length ≤ 1000000) : Ev (fun k => F39 k (ints K)) ((ints (flip K), ()), ((), ())) := by
  have gl : (ints (flip K)).length = K.length := by rw [ints_len, flip_len]
  have loop : ∀ (m i : Nat), i + m = K.length → Ev (fun k => F39c3 k ((ints (flip K)).take i ++ List.replicate ((ints (flip K)).length - i) (0 : Int)) (ints K) (K.length : Int) (i : Int)) ((ints (flip K), ()), ((), ())) := by
    intro m
    induction m with
    | zero =>
      intro i hi
      refine Ev.step 1 (fun k => F39c3_eq k _ _ _ _) ?_
      simp only [lt_false (show K.length ≤ i by omega), Bool.false_eq_true, if_false]
      rw [List.take_of_length_le (by omega), gl, show K.length - i = 0 by omega, List.replicate_zero, List.append_nil]
      exact Ev.now _
    | succ m ih =>
      intro i hi
      have hlt : i < K.length := by omega
      have hlt' : i < (ints (flip K)).length := by omega
      refine Ev.step 1 (fun k => F39c3_eq k _ _ _ _) ?_
      have hx : (ints K)[i]? = some (K[i].toNat : Int) := by rw [ints_get, List.getElem?_eq_getElem hlt]; rfl
      have hc : decide ((i : Int) < (((ints (flip K)).take i ++ List.replicate ((ints (flip K)).length - i) (0 : Int)).length : Int)) = true := decide_eq_true (by rw [fill_len (by omega)]; omega)
      simp only [lt_true hlt, ge0, if_true, Int.toNat_natCast, hx, Option.bind_some, hc, Bool.and_self, fill_get hlt', wrap_succ (show i < 9223372036854775807 by omega)]
      rw [← flip_get hlt, fill_set hlt']
      exact ih (i + 1) (by omega)
  refine Ev.step 2 (fun k => F39_eq k _) ?_
  have h0 := loop K.length 0 (by omega)
  rw [List.take_zero, List.nil_append, Nat.sub_zero, gl] at h0
  simp only [ints_len, decide_eq_true (show (0 : Int) ≤ (K.length : Int) by omega), decide_eq_true (Int.le_refl (K.length : Int)), decide_eq_true (show (K.length : Int) ≤ 140737488355328 by omega), Bool.and_self, if_true, Int.toNat_natCast]
  exact h0
theorem l5Turn_ev (K : List UInt8) (hK : K.length ≤ 2000000) : Ev (fun k => F88 k (ba K)) ((ba (flip K), ()), ((), ())) := by
  have gl : (ints (flip K)).length = K.length := by rw [ints_len, flip_len]
  have loop : ∀ (m i : Nat), i + m = K.length → Ev (fun k => F88c3 k (ba K) ((ints (flip K)).take i ++ List.replicate ((ints (flip K)).length - i) (0 : Int)) (i : Int)) ((ba (flip K), ()), ((), ())) := by
    intro m
    induction m with
    | zero =>
      intro i hi
      refine Ev.step 1 (fun k => F88c3_eq k _ _ _) ?_
      simp only [lt_false (show (ba K).size ≤ i by rw [ba_size]; omega), Bool.false_eq_true, if_false]
      rw [List.take_of_length_le (by omega), gl, show K.length - i = 0 by omega, List.replicate_zero, List.append_nil, bytes_ints]
      exact Ev.now _
    | succ m ih =>
      intro i hi
      have hlt : i < K.length := by omega
      have hlt' : i < (ints (flip K)).length := by omega
      refine Ev.step 1 (fun k => F88c3_eq k _ _ _) ?_
      have hx : (ba K)[i]? = some K[i] := by rw [ba_get, List.getElem?_eq_getElem hlt]
      have hc : decide ((i : Int) < (((ints (flip K)).take i ++ List.replicate ((ints (flip K)).length - i) (0 : Int)).length : Int)) = true := decide_eq_true (by rw [fill_len (by omega)]; omega)
      simp only [lt_true (show i < (ba K).size from hlt), ge0, if_true, Int.toNat_natCast, hx, Option.bind_some, hc, Bool.and_self, fill_get hlt', wrap_succ (show i < 9223372036854775807 by omega)]
      rw [← flip_get hlt, fill_set hlt']
      exact ih (i + 1) (by omega)
  refine Ev.step 2 (fun k => F88_eq k _) ?_
  have h0 := loop K.length 0 (by omega)
  rw [List.take_zero, List.nil_append, Nat.sub_zero, gl] at h0
  simp only [decide_eq_true (show (0 : Int) ≤ ((ba K).size : Int) by omega), decide_eq_true (Int.le_refl ((ba K).size : Int)), decide_eq_true (show ((ba K).size : Int) ≤ 140737488355328 by rw [ba_size]; omega), Bool.and_self, if_true, Int.toNat_natCast]
  exact h0
/-! ### three bytes -/
def k3 (z : Int) : List UInt8 := [u8 (z / 65536), u8 (z / 256), u8 z]
theorem three_ev {z : Int} : Ev (fun k => F87 k z) ((ints (k3 z), ()), ((), ())) := by
  refine Ev.step 2 (fun k => F87_eq k _) ?_
  have e1 : z.fdiv (2 ^ min (16 : Int).toNat IntKind.i64.bits) = z / 65536 := by
    rw [show ((2 : Int) ^ min (16 : Int).toNat IntKind.i64.bits) = 65536 from rfl, Int.fdiv_eq_ediv_of_nonneg _ (by omega)]
  have e2 : z.fdiv (2 ^ min (8 : Int).toNat IntKind.i64.bits) = z / 256 := by
    rw [show ((2 : Int) ^ min (8 : Int).toNat IntKind.i64.bits) = 256 from rfl, Int.fdiv_eq_ediv_of_nonneg _ (by omega)]
  have e : ints (k3 z) = [IntKind.u8.wrap (z.fdiv (2 ^ min (16 : Int).toNat IntKind.i64.bits)), IntKind.u8.wrap (z.fdiv (2 ^ min (8 : Int).toNat IntKind.i64.bits)), IntKind.u8.wrap z] := by
    rw [e1, e2, u8w, u8w, u8w]; rfl
  rw [e]
  exact Ev.now _
theorem l5Three_ev {z : Int} (h0 : 0 ≤ z) (h1 : z ≤ 100000000) : Ev (fun k => F151 k z) ((ba (k3 z), ()), ((), ())) := by
  refine Ev.step 2 (fun k => F151_eq k _) ?_
  have t1 : z.tdiv 65536 = z / 65536 := Int.tdiv_eq_ediv_of_nonneg h0
  have t2 : z.tdiv 256 = z / 256 := Int.tdiv_eq_ediv_of_nonneg h0
  have t3 : z.tmod 256 = z % 256 := Int.tmod_eq_emod_of_nonneg h0
  have t4 : (z / 256).tmod 256 = (z / 256) % 256 := Int.tmod_eq_emod_of_nonneg (by omega)
  have w1 : IntKind.i64.wrap (z / 65536) = z / 65536 := wrap64 (by omega) (by omega)
  have w2 : IntKind.i64.wrap (z / 256) = z / 256 := wrap64 (by omega) (by omega)
  rw [t1, t2, t3, w1, w2, t4]
  have e : ints (k3 z) = [IntKind.u8.wrap (z / 65536), IntKind.u8.wrap ((z / 256) % 256), IntKind.u8.wrap (z % 256)] := by
    rw [show IntKind.u8.wrap ((z / 256) % 256) = IntKind.u8.wrap (z / 256) by rw [wrap8, wrap8]; omega, show IntKind.u8.wrap (z % 256) = IntKind.u8.wrap z by rw [wrap8, wrap8]; omega, u8w, u8w, u8w]; rfl
  rw [← e, bytes_ints]
  exact Ev.now _
end Go.Proofs.YtiojgdjpigcgaaaGreatDoor.R
end

section
/-! Rf: keys of numbers. -/
set_option autoImplicit false
set_option linter.unusedSimpArgs false
set_option linter.unusedVariables false
namespace Go.Proofs.YtiojgdjpigcgaaaGreatDoor.R
open Go.Rf
def gb (b : UInt8) : UInt8 := u8 (IntKind.u8.wrap ((b.toNat : Int) - 48) + 1)
def dig (W : List UInt8) : List UInt8 := W.map gb ++ [0]
def nk (neg : Bool) (hdr : UInt8) (W : List UInt8) : List UInt8 := if neg = true then 127 :: flip (hdr :: dig W) else 129 :: (hdr :: dig W)
theorem dig_len (W : List UInt8) : (dig W).length = W.length + 1 := by unfold dig; simp
theorem l5Digits_ev (W : List UInt8) (hW : W.length ≤ 1000000) : Ev (fun k => F192 k (ba W)) ((ba (dig W), ()), ((), ())) := by
  have gl : (ints (dig W)).length = W.length + 1 := by rw [ints_len, dig_len]
  have gg : ∀ i (h : i < W.length), (ints (dig W))[i]'(by omega) = IntKind.u8.wrap (IntKind.u8.wrap ((W[i].toNat : Int) - 48) + 1) := fun i h => by
    rw [u8w (IntKind.u8.wrap ((W[i].toNat : Int) - 48) + 1)]
    unfold ints dig gb
    simp [List.getElem_append, h]
  have loop : ∀ (m i : Nat), i + m = W.length → Ev (fun k => F192c3 k (ba W) ((ints (dig W)).take i ++ List.replicate ((ints (dig W)).length - i) (0 : Int)) (i : Int)) ((ba (dig W), ()), ((), ())) := by
    intro m
    induction m with
    | zero =>
      intro i hi
      refine Ev.step 1 (fun k => F192c3_eq k _ _ _) ?_
      simp only [lt_false (show (ba W).size ≤ i by rw [ba_size]; omega), Bool.false_eq_true, if_false]
      have e : (ints (dig W)).take i ++ List.replicate ((ints (dig W)).length - i) (0 : Int) = ints (dig W) := by
        rw [gl, show W.length + 1 - i = 1 by omega]
        unfold dig
        rw [← ints_app, List.take_append_of_le_length (by rw [ints_len, List.length_map]; omega), List.take_of_length_le (by rw [ints_len, List.length_map]; omega)]
        rfl
      rw [e, bytes_ints]
      exact Ev.now _
    | succ m ih =>
      intro i hi
      have hlt : i < W.length := by omega
      have hlt' : i < (ints (dig W)).length := by omega
      refine Ev.step 1 (fun k => F192c3_eq k _ _ _) ?_
      have hx : (ba W)[i]? = some W[i] := by rw [ba_get, List.getElem?_eq_getElem hlt]
      have hc : decide ((i : Int) < (((ints (dig W)).take i ++ List.replicate ((ints (dig W)).length - i) (0 : Int)).length : Int)) = true := decide_eq_true (by rw [fill_len (by omega)]; omega)
      simp only [lt_true (show i < (ba W).size from hlt), ge0, if_true, Int.toNat_natCast, hx, Option.bind_some, hc, Bool.and_self, fill_get hlt', wrap_succ (show i < 9223372036854775807 by omega)]
      rw [← gg i hlt, fill_set hlt']
      exact ih (i + 1) (by omega)
  refine Ev.step 2 (fun k => F192_eq k _) ?_
  have h0 := loop W.length 0 (by omega)
  rw [List.take_zero, List.nil_append, Nat.sub_zero, gl] at h0
  have e1 : IntKind.i64.wrap (((ba W).size : Int) + 1) = ((W.length + 1 : Nat) : Int) := by rw [ba_size, wrap64 (by omega) (by omega)]; omega
  simp only [e1, decide_eq_true (show (0 : Int) ≤ ((W.length + 1 : Nat) : Int) by omega), decide_eq_true (Int.le_refl ((W.length + 1 : Nat) : Int)), decide_eq_true (show ((W.length + 1 : Nat) : Int) ≤ 140737488355328 by omega), Bool.and_self, if_true, Int.toNat_natCast]
  exact h0
/-! ### what stands behind -/
theorem trimB_zero (T : List UInt8) : Lib.trimRightB (T ++ [48]) 48 = Lib.trimRightB T 48 := by
  unfold Lib.trimRightB
  rw [List.reverse_append]
  simp
theorem trimB_keep (T : List UInt8) (b : UInt8) (h : b ≠ 48) : Lib.trimRightB (T ++ [b]) 48 = T ++ [b] := by
  unfold Lib.trimRightB
  rw [List.reverse_append]
  simp [h]
theorem trimB_len (T : List UInt8) : (Lib.trimRightB T 48).length ≤ T.length := by
  unfold Lib.trimRightB
  rw [List.length_reverse]
  have := (List.dropWhile_sublist (fun x => x == (48 : UInt8)) (l := T.reverse)).length_le
  rw [List.length_reverse] at this
  exact this
theorem dd_some : ∀ (n : Nat), 0 < n → ∃ b ∈ Lib.decDigits n, b ≠ 48 := by
  intro n
  induction n using Nat.strongRecOn with
  | _ n ih =>
    intro hn
    unfold Lib.decDigits
    by_cases h : n < 10
    · rw [dif_pos h]
      refine ⟨UInt8.ofNat (48 + n), List.mem_cons_self, fun e => ?_⟩
      have := congrArg UInt8.toNat e
      rw [UInt8.toNat_ofNat'] at this
      have h48 : (48 : UInt8).toNat = 48 := rfl
      omega
    · rw [dif_neg h]
      obtain ⟨b, hb, hb2⟩ := ih (n / 10) (by omega) (by omega)
      exact ⟨b, List.mem_append_left _ hb, hb2⟩
section
variable {n : Bool} {l : List Int} {s : Int}
theorem numC {T : List UInt8} (hT : T.length ≤ 1000) {x5 : Int} {hdr : UInt8} (hx : u8 (IntKind.i64.wrap (64 + x5)) = hdr) : ∀ (i : Nat), i ≤ T.length → (∃ j, j < i ∧ ∃ b, T[j]? = some b ∧ b ≠ 48) →
    Ev (fun k => F150c7 k n l s (ba T) x5 (i : Int)) ((ba (nk n hdr (Lib.trimRightB (T.take i) 48)), ()), (((), (), (), ()), ())) := by
  intro i
  induction i with
  | zero => rintro _ ⟨j, hj, _⟩; omega
  | succ i ih =>
    intro hi hex
    have hlt : i < T.length := by omega
    have e1 : IntKind.i64.wrap (((i + 1 : Nat) : Int) - 1) = (i : Int) := by rw [wrap64 (by omega) (by omega)]; omega
    have hg : (ba T)[i]? = some T[i] := by rw [ba_get, List.getElem?_eq_getElem hlt]
    have htk : T.take (i + 1) = T.take i ++ [T[i]] := by rw [List.take_add_one, List.getElem?_eq_getElem hlt, Option.toList_some]
    refine Ev.step 1 (fun k => F150c7_eq k _ _ _ _ _ _) ?_
    simp only [e1, ge0, if_true, Int.toNat_natCast, hg, Option.bind_some]
    by_cases hb : T[i] = 48
    · have hb' : ((T[i].toNat : Int) == 48) = true := by rw [hb]; rfl
      simp only [hb', if_true]
      rw [htk, hb, trimB_zero]
      refine ih (by omega) ?_
      obtain ⟨j, hj, b, h1, h2⟩ := hex
      refine ⟨j, ?_, b, h1, h2⟩
      rcases Nat.lt_or_ge j i with h | h
      · exact h
      · have : j = i := by omega
        subst this
        rw [List.getElem?_eq_getElem hlt, hb] at h1
        cases h1
        exact absurd rfl h2
    · have hb' : ((T[i].toNat : Int) == 48) = false := by
        rw [beq_eq_false_iff_ne]
        intro h
        refine hb (UInt8.toNat.inj ?_)
        have h48 : (48 : UInt8).toNat = 48 := rfl
        omega
      have hW := trimB_keep (T.take i) T[i] hb
      rw [← htk] at hW
      rw [hW]
      have hl : (T.take (i + 1)).length ≤ 1000 := by rw [List.length_take]; omega
      have hex2 : (ba T).extract 0 (i + 1) = ba (T.take (i + 1)) := by
        rw [← Lib.mk_data ((ba T).extract 0 (i + 1)), ByteArray.data_extract, Array.toList_extract]
        simp [ba]
      have c1 : decide (0 ≤ ((i + 1 : Nat) : Int)) = true := decide_eq_true (by omega)
      have c2 : decide (((i + 1 : Nat) : Int) ≤ ((ba T).size : Int)) = true := decide_eq_true (by rw [ba_size]; omega)
      simp only [hb', Bool.false_eq_true, if_false, c1, c2, Bool.and_self, if_true, Int.toNat_natCast, hex2]
      refine Ev.bind (l5Digits_ev _ (by omega)) ?_
      rw [ints1, hx, bytes_ints]
      have hd := dig_len (T.take (i + 1))
      have b1 : Nat.ble ((ba [hdr]).size + (ba (dig (T.take (i + 1)))).size) 9223372036854775807 = true := Nat.ble_eq_true_of_le (by rw [ba_size, ba_size, List.length_singleton]; omega)
      simp only [b1, if_true, ba_app, List.singleton_append]
      cases n with
      | true =>
        simp only [if_true]
        refine Ev.bind (l5Turn_ev _ (by rw [List.length_cons]; omega)) ?_
        have b2 : Nat.ble ((⟨#[127]⟩ : ByteArray).size + (ba (flip (hdr :: dig (T.take (i + 1))))).size) 9223372036854775807 = true := Nat.ble_eq_true_of_le (by rw [ba_size, flip_len, List.length_cons]; show 1 + _ ≤ _; omega)
        simp only [b2, if_true]
        rw [show (⟨#[127]⟩ : ByteArray) = ba [127] from rfl, ba_app]
        exact Ev.now _
      | false =>
        have b2 : Nat.ble ((⟨#[129]⟩ : ByteArray).size + (ba (hdr :: dig (T.take (i + 1)))).size) 9223372036854775807 = true := Nat.ble_eq_true_of_le (by rw [ba_size, List.length_cons]; show 1 + _ ≤ _; omega)
        simp only [Bool.false_eq_true, if_false, b2, if_true]
        rw [show (⟨#[129]⟩ : ByteArray) = ba [129] from rfl, ba_app]
        exact Ev.now _
theorem nkC {W : List UInt8} (hW : W.length ≤ 1000) {hdr : UInt8} : ∀ (m i : Nat), i + m = W.length → Ev (fun k => F86c7 k n l s (ints (hdr :: (W.take i).map gb)) (ints W) (W.length : Int) (i : Int)) ((ints (nk n hdr W), ()), (((), (), (), ()), ())) := by
  intro m
  induction m with
  | zero =>
    intro i hi
    refine Ev.step 1 (fun k => F86c7_eq k _ _ _ _ _ _ _) ?_
    rw [List.take_of_length_le (by omega)]
    have e0 : ints (hdr :: W.map gb) ++ [(0 : Int)] = ints (hdr :: dig W) := by
      rw [show [(0 : Int)] = ints [0] from rfl, ints_app]; rfl
    have hd := dig_len W
    have c1 : decide ((ints (hdr :: W.map gb)).length + [(0 : Int)].length ≤ 140737488355328) = true := decide_eq_true (by rw [ints_len, List.length_cons, List.length_map]; simp; omega)
    simp only [lt_false (show W.length ≤ i by omega), Bool.false_eq_true, if_false, c1, if_true, e0]
    cases n with
    | true =>
      simp only [if_true]
      refine Ev.bind (turned_ev _ (by rw [List.length_cons]; omega)) ?_
      have c2 : decide ([(127 : Int)].length + (ints (flip (hdr :: dig W))).length ≤ 140737488355328) = true := decide_eq_true (by rw [ints_len, flip_len, List.length_cons]; simp; omega)
      simp only [c2, if_true]
      rw [show [(127 : Int)] = ints [127] from rfl, ints_app]
      exact Ev.now _
    | false =>
      have c2 : decide ([(129 : Int)].length + (ints (hdr :: dig W)).length ≤ 140737488355328) = true := decide_eq_true (by rw [ints_len, List.length_cons]; simp; omega)
      simp only [Bool.false_eq_true, if_false, c2, if_true]
      rw [show [(129 : Int)] = ints [129] from rfl, ints_app]
      exact Ev.now _
  | succ m ih =>
    intro i hi
    have hlt : i < W.length := by omega
    refine Ev.step 1 (fun k => F86c7_eq k _ _ _ _ _ _ _) ?_
    have hx : (ints W)[i]? = some (W[i].toNat : Int) := by rw [ints_get, List.getElem?_eq_getElem hlt]; rfl
    have c1 : decide ((ints (hdr :: (W.take i).map gb)).length + [IntKind.u8.wrap (IntKind.u8.wrap ((W[i].toNat : Int) - 48) + 1)].length ≤ 140737488355328) = true := decide_eq_true (by rw [ints_len, List.length_cons, List.length_map, List.length_take]; simp; omega)
    simp only [lt_true hlt, ge0, if_true, Int.toNat_natCast, hx, Option.bind_some, c1, wrap_succ (show i < 9223372036854775807 by omega)]
    have e : ints (hdr :: (W.take i).map gb) ++ [IntKind.u8.wrap (IntKind.u8.wrap ((W[i].toNat : Int) - 48) + 1)] = ints (hdr :: (W.take (i + 1)).map gb) := by
      rw [ints1, ints_app, List.take_add_one, List.getElem?_eq_getElem hlt, Option.toList_some, List.map_append]
      rfl
    rw [e]
    exact ih (i + 1) (by omega)
end
/-- the key of a number in order -/
def numK (n : Bool) (V r : Nat) : List UInt8 := if V = 0 then [128] else nk n (u8 (64 + ((Lib.decDigits V).length : Int) - r)) (Lib.trimRightB (Lib.decDigits V) 48)
theorem num_both {z : Int} {t : Nat} (hz : z.natAbs < 10 ^ 30) (ht : t ≤ 12) : ∃ K : List UInt8, K.length ≤ 1000 ∧ Ev (fun k => F86 k (decide (z < 0)) (digs z.natAbs) (t : Int)) ((ints K, ()), (((), (), (), ()), ())) ∧
    Ev (fun k => F150 k (decide (z < 0)) (digs z.natAbs) (t : Int)) ((ba K, ()), (((), (), (), ()), ())) := by
  have l16 := len16 hz
  obtain ⟨i1, i2, i3⟩ := trim_both (n := decide (z < 0)) (l := digs z.natAbs) (s0 := (t : Int)) t z.natAbs ht l16 (fun e => decide_eq_false (by omega))
  obtain ⟨s1, s2, _⟩ := trimN_spec t z.natAbs
  obtain ⟨V, hV⟩ : ∃ V, V = (trimN z.natAbs t).1 := ⟨_, rfl⟩
  obtain ⟨r, hr⟩ : ∃ r, r = (trimN z.natAbs t).2 := ⟨_, rfl⟩
  rw [← hV, ← hr] at i2 i3
  rw [← hV] at i1
  rw [← hV, ← hr] at s2
  rw [← hr] at s1
  have hd : Ev (fun k => F128 k (decide (z < 0)) (digs z.natAbs) (t : Int)) (((decide (z < 0), digs V, (r : Int), ()), ()), (((), (), (), ()), ())) := by
    have dok := DecOk_ev (decide (z < 0)) (digs z.natAbs) (t : Int) (by omega)
    rw [decOk_D hz ht] at dok
    refine Ev.step 2 (fun k => F128_eq k _ _ _) (Ev.bind dok ?_)
    simp only [Bool.not_true, Bool.false_eq_true, if_false]
    exact i2
  have hs : Ev (fun k => F191 k (decide (z < 0)) (digs z.natAbs) (t : Int)) (((decide (z < 0), digs V, (r : Int), ()), ()), (((), (), (), ()), ())) := Ev.step 2 (fun k => F191_eq k _ _ _) i3
  have e0 : (((digs V).length : Int) == 0) = decide (V = 0) := len_is0 V
  by_cases h0 : V = 0
  · have e1 : (((digs V).length : Int) == 0) = true := by rw [e0, decide_eq_true h0]
    refine ⟨[128], by simp, Ev.step 2 (fun k => F86_eq k _ _ _) (Ev.bind hd ?_), Ev.step 2 (fun k => F150_eq k _ _ _) (Ev.bind hs ?_)⟩
    · simp only [e1, if_true]
      exact Ev.now _
    · simp only [e1, if_true]
      exact Ev.now _
  · obtain ⟨T, hT⟩ : ∃ T, T = Lib.decDigits V := ⟨_, rfl⟩
    have hVlt : V < 10 ^ 30 := by
      have : V ≤ z.natAbs := by
        rw [← s2]
        exact Nat.le_mul_of_pos_right _ (Nat.pow_pos (by omega))
      omega
    have hlong : ¬ long (digs V) > 30 := fun h => (long30 V).1 h hVlt
    rw [long_digs, if_neg h0, ← hT] at hlong
    have tl : T.length ≤ 30 := by omega
    have htx := text_ev (digs_InR V) (show (digs V).length ≤ 1000000 by omega)
    have hfx := l1Figures_ev (digs_InR V) (show (digs V).length ≤ 1000000 by omega)
    rw [textL_digs, ← hT] at htx hfx
    have wl := trimB_len T
    refine ⟨nk (decide (z < 0)) (u8 (64 + (T.length : Int) - r)) (Lib.trimRightB T 48), ?_, Ev.step 2 (fun k => F86_eq k _ _ _) (Ev.bind hd ?_), Ev.step 2 (fun k => F150_eq k _ _ _) (Ev.bind hs ?_)⟩
    · unfold nk
      have := dig_len (Lib.trimRightB T 48)
      split
      · rw [List.length_cons, flip_len, List.length_cons]; omega
      · rw [List.length_cons, List.length_cons]; omega
    · simp only [e0, h0, decide_false, Bool.false_eq_true, if_false]
      have htr : Ev (fun k => F130 k (ba T) (⟨#[48]⟩ : ByteArray)) ((ba (Lib.trimRightB T 48), ()), ((), (), ())) := by
        refine Ev.step 1 (fun k => F130_eq k _ _) ?_
        have : trimR (ba T, (⟨#[48]⟩ : ByteArray), ()) = some ((ba (Lib.trimRightB T 48), ()), ((), (), ())) := by
          have hb : Nat.ble (ba T).size 9223372036854775807 = true := Nat.ble_eq_true_of_le (by rw [ba_size]; omega)
          show (bif Nat.blt (48 : UInt8).toNat 128 && Nat.ble (ba T).size 9223372036854775807 then _ else _) = _
          rw [hb]
          rfl
        rw [this]
        exact Ev.now _
      refine Ev.bind htx (Ev.bind htr ?_)
      have ew : IntKind.i64.wrap (IntKind.i64.wrap (64 + (((ba T).size : Nat) : Int)) - (r : Int)) = 64 + (T.length : Int) - r := by
        rw [ba_size, wrap64 (show -9223372036854775808 ≤ 64 + (T.length : Int) by omega) (by omega), wrap64 (by omega) (by omega)]
      have := nkC (n := decide (z < 0)) (l := digs V) (s := (r : Int)) (W := Lib.trimRightB T 48) (hdr := u8 (64 + (T.length : Int) - r)) (by omega) (Lib.trimRightB T 48).length 0 (by omega)
      show Ev (fun k => F86c7 k (decide (z < 0)) (digs V) (r : Int) [IntKind.u8.wrap (IntKind.i64.wrap (IntKind.i64.wrap (64 + (((ba T).size : Nat) : Int)) - (r : Int)))] (ints (Lib.trimRightB T 48)) ((ints (Lib.trimRightB T 48)).length : Int) 0) _
      rw [ew, ints1, ints_len]
      exact this
    · simp only [e0, h0, decide_false, Bool.false_eq_true, if_false]
      refine Ev.bind hfx ?_
      have ew : IntKind.i64.wrap ((((ba T).size : Nat) : Int) - (r : Int)) = (T.length : Int) - r := by rw [ba_size, wrap64 (by omega) (by omega)]
      obtain ⟨b, hb, hb2⟩ := dd_some V (by omega)
      rw [← hT] at hb
      obtain ⟨j, hj, ej⟩ := List.getElem_of_mem hb
      have := numC (n := decide (z < 0)) (l := digs z.natAbs) (s := (t : Int)) (T := T) (by omega) (x5 := (T.length : Int) - r) (hdr := u8 (64 + (T.length : Int) - r)) (by rw [wrap64 (by omega) (by omega)]; congr 1; omega) T.length (Nat.le_refl _) ⟨j, hj, b, by rw [List.getElem?_eq_getElem hj, ej], hb2⟩
      rw [List.take_length] at this
      show Ev (fun k => F150c7 k (decide (z < 0)) (digs z.natAbs) (t : Int) (ba T) (IntKind.i64.wrap ((((ba T).size : Nat) : Int) - (r : Int))) (((ba T).size : Nat) : Int)) _
      rw [ew]
      exact this
end Go.Proofs.YtiojgdjpigcgaaaGreatDoor.R
end

section
/-! Rf: how values compare. -/
set_option autoImplicit false
set_option linter.unusedSimpArgs false
set_option linter.unusedVariables false
namespace Go.Proofs.YtiojgdjpigcgaaaGreatDoor.R
open Go.Rf
def zc (x y : Int) : Int := if x < y then -1 else if x > y then 1 else 0
def tc (a b : ByteArray) : Int := Lib.compareBytes a.data.toList b.data.toList
theorem less_cmp : ∀ (a b : List UInt8), (Op.bytesLess a b = true ↔ Lib.compareBytes a b = -1) ∧ ((Lib.compareBytes a b = 0) ↔ a = b) ∧ (Lib.compareBytes a b = -1 ∨ Lib.compareBytes a b = 0 ∨ Lib.compareBytes a b = 1)
  | [], [] => by simp [Op.bytesLess, Lib.compareBytes]
  | [], _ :: _ => by simp [Op.bytesLess, Lib.compareBytes]
  | _ :: _, [] => by simp [Op.bytesLess, Lib.compareBytes]
  | x :: a, y :: b => by
    obtain ⟨h1, h2, h3⟩ := less_cmp a b
    unfold Op.bytesLess Lib.compareBytes
    by_cases hxy : x = y
    · subst hxy
      have hlt : ¬ x < x := UInt8.lt_irrefl x
      simp only [hlt, decide_false, beq_self_eq_true, Bool.false_or, Bool.true_and, if_false, List.cons.injEq, true_and]
      exact ⟨h1, h2, h3⟩
    · by_cases hlt : x < y
      · simp [hlt, hxy]
      · have hgt : y < x := UInt8.lt_of_le_of_ne (UInt8.not_lt.1 hlt) (Ne.symm hxy)
        simp [hlt, hgt, hxy]
def bit (b : Bool) : Int := if b then 1 else 0
theorem l4Bit_ev (b : Bool) : Ev (fun k => F125 k b) ((bit b, ()), ((), ())) := by
  refine Ev.step 2 (fun k => F125_eq k _) ?_
  unfold bit
  cases b
  · simp only [Bool.false_eq_true, if_false]; exact Ev.now _
  · simp only [if_true]; exact Ev.now _
theorem truth_ev (b : Bool) : Ev (fun k => F85 k b) ((bit b, ()), ((), ())) := by
  refine Ev.step 2 (fun k => F85_eq k _) ?_
  unfold bit
  cases b
  · simp only [Bool.false_eq_true, if_false]; exact Ev.now _
  · simp only [if_true]; exact Ev.now _
theorem bit_sub (b c : Bool) : IntKind.i64.wrap (bit b - bit c) = zc (bit b) (bit c) := by cases b <;> cases c <;> decide
/-- how two values of one kind compare -/
def vc (k0 : Int) (y1 n1 : Bool) (l1 : List Int) (s1 d1 m1 a1 : Int) (t1 : ByteArray) (y2 n2 : Bool) (l2 : List Int) (s2 d2 m2 a2 : Int) (t2 : ByteArray) : Int :=
  if k0 = 1 then zc (bit y1) (bit y2) else if k0 = 2 then dCmp n1 l1 s1.toNat n2 l2 s2.toNat else if k0 = 3 then zc d1 d2 else if k0 = 4 then (if m1 = m2 then zc a1 a2 else zc m1 m2) else tc t1 t2
def vo (k1 : Int) (y1 n1 : Bool) (l1 : List Int) (s1 d1 m1 a1 : Int) (t1 : ByteArray) (k2 : Int) (y2 n2 : Bool) (l2 : List Int) (s2 d2 m2 a2 : Int) (t2 : ByteArray) : Int :=
  if k1 = k2 then vc k1 y1 n1 l1 s1 d1 m1 a1 t1 y2 n2 l2 s2 d2 m2 a2 t2 else zc k1 k2
theorem zc_zero {x y : Int} : zc x y = 0 ↔ x = y := by
  unfold zc
  split
  · constructor <;> intro h <;> omega
  · split <;> constructor <;> intro h <;> omega
section
variable (k0 : Int) (y1 n1 : Bool) (l1 : List Int) (s1 d1 m1 a1 : Int) (t1 : ByteArray) (y2 n2 : Bool) (l2 : List Int) (s2 d2 m2 a2 : Int) (t2 : ByteArray)
theorem vOk_kind {k0 : Int} {y n : Bool} {l : List Int} {s day mo da : Int} {t : ByteArray} (h : vOk k0 y n l s day mo da t = true) : 0 ≤ k0 ∧ k0 ≤ 5 := by
  unfold vOk within at h
  simp only [Bool.and_eq_true, decide_eq_true_iff] at h
  exact ⟨h.1.1, h.1.2⟩
theorem noText_nil {t : ByteArray} (h : noText t = true) : t.data.toList = [] := by
  have h1 := eq_of_beq h
  rw [Lib.toList_data, Lib.toList_data] at h1
  exact h1
theorem vOk_noText {k0 : Int} {y n : Bool} {l : List Int} {s day mo da : Int} {t : ByteArray} (h : vOk k0 y n l s day mo da t = true) (h5 : k0 ≠ 5) : t.data.toList = [] := by
  unfold vOk bareOk at h
  rw [beq_eq_false_iff_ne.2 h5] at h
  simp only [Bool.and_eq_true, Bool.false_or] at h
  exact noText_nil h.2.1.2.2.2.2
end
section
variable (k1 : Int) (y1 n1 : Bool) (l1 : List Int) (s1 d1 m1 a1 : Int) (t1 : ByteArray) (k2 : Int) (y2 n2 : Bool) (l2 : List Int) (s2 d2 m2 a2 : Int) (t2 : ByteArray)
/-- what ValueOrder hands back -/
def vOrd : Int := if vOk k1 y1 n1 l1 s1 d1 m1 a1 t1 && vOk k2 y2 n2 l2 s2 d2 m2 a2 t2 then vo k1 y1 n1 l1 s1 d1 m1 a1 t1 k2 y2 n2 l2 s2 d2 m2 a2 t2 else 2
/-- can ValueCmp tell? -/
def vCan : Bool := vOk k1 y1 n1 l1 s1 d1 m1 a1 t1 && vOk k2 y2 n2 l2 s2 d2 m2 a2 t2 && (k1 != 0 && k1 == k2)
def vCmp : Int := if vCan k1 y1 n1 l1 s1 d1 m1 a1 t1 k2 y2 n2 l2 s2 d2 m2 a2 t2 then vc k1 y1 n1 l1 s1 d1 m1 a1 t1 y2 n2 l2 s2 d2 m2 a2 t2 else 0
variable (z1 : l1.length ≤ 1048576) (x1 : t1.size ≤ 1048576) (z2 : l2.length ≤ 1048576) (x2 : t2.size ≤ 1048576)
include z1 x1 z2 x2
end
end Go.Proofs.YtiojgdjpigcgaaaGreatDoor.R
end

section
/-! Rf: keys of values. -/
set_option autoImplicit false
set_option linter.unusedSimpArgs false
set_option linter.unusedVariables false
namespace Go.Proofs.YtiojgdjpigcgaaaGreatDoor.R
open Go.Rf
theorem key_end (down : Bool) (B : List UInt8) (hB : B.length ≤ 3000) : Ev (fun k => F37c13 k down (ints B)) ((ints (if down = true then flip B else B), ()), (((), (), (), (), (), (), (), (), (), ()), (), ())) := by
  refine Ev.step 1 (fun k => F37c13_eq k _ _) ?_
  cases down with
  | true =>
    simp only [if_true]
    exact Ev.bind (turned_ev _ (by omega)) (Ev.now _)
  | false =>
    simp only [Bool.false_eq_true, if_false]
    exact Ev.now _
theorem put_end {k0 : Int} {y n : Bool} {l : List Int} {s day mo da : Int} {t : ByteArray} {B : List UInt8} (hB : B.length ≤ 2000) (h : Ev (fun k => F108 k k0 y n l s day mo da t) ((ba B, ()), (((), (), (), (), (), (), (), (), (), ()), ()))) (down : Bool) :
    Ev (fun k => F66 k k0 y n l s day mo da t down) ((ba (if down = true then flip (u8 (IntKind.i64.wrap (k0 + 1)) :: B) else u8 (IntKind.i64.wrap (k0 + 1)) :: B), ()), (((), (), (), (), (), (), (), (), (), ()), (), ())) := by
  refine Ev.step 2 (fun k => F66_eq k _ _ _ _ _ _ _ _ _ _) (Ev.bind h ?_)
  rw [ints1, bytes_ints]
  have b1 : Nat.ble ((ba [u8 (IntKind.i64.wrap (k0 + 1))]).size + (ba B).size) 9223372036854775807 = true := Nat.ble_eq_true_of_le (by rw [ba_size, ba_size, List.length_singleton]; omega)
  simp only [b1, if_true, ba_app, List.singleton_append]
  cases down with
  | true =>
    simp only [if_true]
    exact Ev.bind (l5Turn_ev _ (by rw [List.length_cons]; omega)) (Ev.now _)
  | false =>
    simp only [Bool.false_eq_true, if_false]
    exact Ev.now _
section
variable {k0 : Int} {y n : Bool} {l : List Int} {s day mo da : Int} {t : ByteArray}
theorem vOk_day (h : vOk k0 y n l s day mo da t = true) (h3 : k0 = 3) : 1 ≤ day ∧ day ≤ 3652059 := by
  unfold vOk bodyOk dayOk within at h
  rw [if_neg (by omega), if_pos h3] at h
  simp only [Bool.and_eq_true, decide_eq_true_iff] at h
  exact h.2.2
theorem vOk_span (h : vOk k0 y n l s day mo da t = true) (h4 : k0 = 4) : (-120000 ≤ mo ∧ mo ≤ 120000) ∧ (-4000000 ≤ da ∧ da ≤ 4000000) := by
  unfold vOk bodyOk spanOk within at h
  rw [if_neg (by omega), if_neg (by omega), if_pos h4] at h
  simp only [Bool.and_eq_true, decide_eq_true_iff] at h
  exact h.2.2
theorem vOk_text (h : vOk k0 y n l s day mo da t = true) (h5 : k0 = 5) : t.size ≤ 12 := by
  unfold vOk bodyOk textOk at h
  rw [if_neg (by omega), if_neg (by omega), if_neg (by omega), if_pos h5] at h
  simp only [Bool.and_eq_true, decide_eq_true_iff] at h
  have := h.2.2.1
  omega
theorem key_both (h : vOk k0 y n l s day mo da t = true) (down : Bool) : ∃ K : List UInt8, K.length ≤ 4000 ∧ Ev (fun k => F37 k k0 y n l s day mo da t down) ((ints K, ()), (((), (), (), (), (), (), (), (), (), ()), (), ())) ∧
    Ev (fun k => F66 k k0 y n l s day mo da t down) ((ba K, ()), (((), (), (), (), (), (), (), (), (), ()), (), ())) := by
  have fin : ∀ {B : List UInt8}, B.length ≤ 2000 → Ev (fun k => F108 k k0 y n l s day mo da t) ((ba B, ()), (((), (), (), (), (), (), (), (), (), ()), ())) →
      (∀ {r}, Ev (fun k => F37c13 k down (ints (u8 (IntKind.i64.wrap (k0 + 1)) :: B))) r → Ev (fun k => F37 k k0 y n l s day mo da t down) r) → ∃ K : List UInt8, K.length ≤ 4000 ∧ Ev (fun k => F37 k k0 y n l s day mo da t down) ((ints K, ()), (((), (), (), (), (), (), (), (), (), ()), (), ())) ∧
    Ev (fun k => F66 k k0 y n l s day mo da t down) ((ba K, ()), (((), (), (), (), (), (), (), (), (), ()), (), ())) := fun {B} hB hs hi => by
    refine ⟨if down = true then flip (u8 (IntKind.i64.wrap (k0 + 1)) :: B) else u8 (IntKind.i64.wrap (k0 + 1)) :: B, ?_, hi (key_end down _ (by rw [List.length_cons]; omega)), put_end hB hs down⟩
    split
    · rw [flip_len, List.length_cons]; omega
    · rw [List.length_cons]; omega
  have hd : ∀ {B : List UInt8}, B.length ≤ 2000 → (decide ([IntKind.u8.wrap (IntKind.i64.wrap (k0 + 1))].length + (ints B).length ≤ 140737488355328)) = true := fun {B} hB => decide_eq_true (by rw [ints_len, List.length_singleton]; omega)
  have hj : ∀ B : List UInt8, [IntKind.u8.wrap (IntKind.i64.wrap (k0 + 1))] ++ ints B = ints (u8 (IntKind.i64.wrap (k0 + 1)) :: B) := fun B => by rw [ints1, ints_app]; rfl
  by_cases g1 : k0 = 1
  · refine fin (B := [u8 (bit y)]) (by simp) (Ev.step 2 (fun k => F108_eq k _ _ _ _ _ _ _ _ _) ?_) (fun {r} hr => Ev.step 2 (fun k => F37_eq k _ _ _ _ _ _ _ _ _ _) ?_)
    · simp only [beq_iff_eq.2 g1, if_true]
      refine Ev.bind (l4Bit_ev y) ?_
      rw [ints1, bytes_ints]
      exact Ev.now _
    · simp only [beq_iff_eq.2 g1, if_true]
      refine Ev.bind (truth_ev y) ?_
      rw [ints1 (bit y), hd (by simp)]
      simp only [if_true, hj]
      exact hr
  have b1 := beq_eq_false_iff_ne.2 g1
  by_cases g2 : k0 = 2
  · obtain ⟨z, u, rfl, rfl, rfl, hz, hu⟩ := decOk_ex (vOk_num _ _ _ _ _ _ _ _ _ h g2)
    obtain ⟨B, hB, h1, h2⟩ := num_both hz hu
    refine fin (B := B) (by omega) (Ev.step 2 (fun k => F108_eq k _ _ _ _ _ _ _ _ _) ?_) (fun {r} hr => Ev.step 2 (fun k => F37_eq k _ _ _ _ _ _ _ _ _ _) ?_)
    · simp only [b1, beq_iff_eq.2 g2, Bool.false_eq_true, if_false, if_true]
      exact Ev.bind h2 (Ev.now _)
    · simp only [b1, beq_iff_eq.2 g2, Bool.false_eq_true, if_false, if_true]
      refine Ev.bind h1 ?_
      rw [hd (by omega)]
      simp only [if_true, hj]
      exact hr
  have b2 := beq_eq_false_iff_ne.2 g2
  by_cases g3 : k0 = 3
  · have hday := vOk_day h g3
    refine fin (B := k3 day) (by simp [k3]) (Ev.step 2 (fun k => F108_eq k _ _ _ _ _ _ _ _ _) ?_) (fun {r} hr => Ev.step 2 (fun k => F37_eq k _ _ _ _ _ _ _ _ _ _) ?_)
    · simp only [b1, b2, beq_iff_eq.2 g3, Bool.false_eq_true, if_false, if_true]
      exact Ev.bind (l5Three_ev (by omega) (by omega)) (Ev.now _)
    · simp only [b1, b2, beq_iff_eq.2 g3, Bool.false_eq_true, if_false, if_true]
      refine Ev.bind three_ev ?_
      rw [hd (by simp [k3])]
      simp only [if_true, hj]
      exact hr
  have b3 := beq_eq_false_iff_ne.2 g3
  by_cases g4 : k0 = 4
  · obtain ⟨hm, hda⟩ := vOk_span h g4
    have w1 : IntKind.i64.wrap (mo + 120000) = mo + 120000 := wrap64 (by omega) (by omega)
    have w2 : IntKind.i64.wrap (da + 4000000) = da + 4000000 := wrap64 (by omega) (by omega)
    refine fin (B := k3 (mo + 120000) ++ k3 (da + 4000000)) (by simp [k3]) (Ev.step 2 (fun k => F108_eq k _ _ _ _ _ _ _ _ _) ?_) (fun {r} hr => Ev.step 2 (fun k => F37_eq k _ _ _ _ _ _ _ _ _ _) ?_)
    · simp only [b1, b2, b3, beq_iff_eq.2 g4, Bool.false_eq_true, if_false, if_true, w1, w2]
      refine Ev.bind (l5Three_ev (by omega) (by omega)) (Ev.bind (l5Three_ev (by omega) (by omega)) ?_)
      have c : Nat.ble ((ba (k3 (mo + 120000))).size + (ba (k3 (da + 4000000))).size) 9223372036854775807 = true := Nat.ble_eq_true_of_le (by rw [ba_size, ba_size]; simp [k3])
      simp only [c, if_true, ba_app]
      exact Ev.now _
    · simp only [b1, b2, b3, beq_iff_eq.2 g4, Bool.false_eq_true, if_false, if_true, w1, w2]
      refine Ev.bind three_ev ?_
      rw [hd (by simp [k3])]
      simp only [if_true, hj]
      refine Ev.bind three_ev ?_
      have c : decide ((ints (u8 (IntKind.i64.wrap (k0 + 1)) :: k3 (mo + 120000))).length + (ints (k3 (da + 4000000))).length ≤ 140737488355328) = true := decide_eq_true (by rw [ints_len, ints_len]; simp [k3])
      simp only [c, if_true, ints_app, List.cons_append]
      exact hr
  have b4 := beq_eq_false_iff_ne.2 g4
  by_cases g5 : k0 = 5
  · have ht := vOk_text h g5
    have hl : t.data.toList.length ≤ 12 := ht
    refine fin (B := t.data.toList ++ [0]) (by rw [List.length_append, List.length_singleton]; omega) (Ev.step 2 (fun k => F108_eq k _ _ _ _ _ _ _ _ _) ?_) (fun {r} hr => Ev.step 2 (fun k => F37_eq k _ _ _ _ _ _ _ _ _ _) ?_)
    · have c : Nat.ble (t.size + (⟨#[0]⟩ : ByteArray).size) 9223372036854775807 = true := Nat.ble_eq_true_of_le (by show t.size + 1 ≤ _; omega)
      simp only [b1, b2, b3, b4, beq_iff_eq.2 g5, Bool.false_eq_true, if_false, if_true, c]
      rw [← ba_app, of_data]
      exact Ev.now _
    · have c1 : decide ([IntKind.u8.wrap (IntKind.i64.wrap (k0 + 1))].length + (t.data.toList.map fun b => (b.toNat : Int)).length ≤ 140737488355328) = true := decide_eq_true (by rw [List.length_map, List.length_singleton]; omega)
      have e1 : [IntKind.u8.wrap (IntKind.i64.wrap (k0 + 1))] ++ (t.data.toList.map fun b => (b.toNat : Int)) = ints (u8 (IntKind.i64.wrap (k0 + 1)) :: t.data.toList) := hj t.data.toList
      have c2 : decide ((ints (u8 (IntKind.i64.wrap (k0 + 1)) :: t.data.toList)).length + [(0 : Int)].length ≤ 140737488355328) = true := decide_eq_true (by rw [ints_len, List.length_cons, List.length_singleton]; omega)
      simp only [b1, b2, b3, b4, beq_iff_eq.2 g5, Bool.false_eq_true, if_false, if_true, c1, e1, c2]
      rw [show [(0 : Int)] = ints [0] from rfl, ints_app]
      exact hr
  have b5 := beq_eq_false_iff_ne.2 g5
  · refine fin (B := []) (by simp) (Ev.step 2 (fun k => F108_eq k _ _ _ _ _ _ _ _ _) ?_) (fun {r} hr => Ev.step 2 (fun k => F37_eq k _ _ _ _ _ _ _ _ _ _) ?_)
    · simp only [b1, b2, b3, b4, b5, Bool.false_eq_true, if_false]
      exact Ev.now _
    · simp only [b1, b2, b3, b4, b5, Bool.false_eq_true, if_false]
      rw [ints1]
      exact hr
/-- keys of values on both sides -/
theorem KeyPut_both (hl : l.length ≤ 1048576) (ht : t.size ≤ 1048576) (down : Bool) : ∃ K : List UInt8, K.length ≤ 4000 ∧ Ev (fun k => F13 k k0 y n l s day mo da t down) ((ba K, ()), (((), (), (), (), (), (), (), (), (), ()), (), ())) ∧
    Ev (fun k => F24 k k0 y n l s day mo da t down) ((ba K, ()), (((), (), (), (), (), (), (), (), (), ()), (), ())) := by
  have v1 := ValueOk_ev k0 y n l s day mo da t hl ht
  have v2 := l4Ok_ev k0 y n l s day mo da t hl ht
  cases h : vOk k0 y n l s day mo da t with
  | false =>
    rw [h] at v1 v2
    refine ⟨[], by simp, Ev.step 2 (fun k => F13_eq k _ _ _ _ _ _ _ _ _ _) (Ev.bind v1 ?_), Ev.step 2 (fun k => F24_eq k _ _ _ _ _ _ _ _ _ _) (Ev.bind v2 ?_)⟩
    · simp only [Bool.not_false, if_true]
      exact Ev.now _
    · simp only [Bool.not_false, if_true]
      exact Ev.now _
  | true =>
    rw [h] at v1 v2
    obtain ⟨K, hK, h1, h2⟩ := key_both h down
    refine ⟨K, hK, Ev.step 2 (fun k => F13_eq k _ _ _ _ _ _ _ _ _ _) (Ev.bind v1 ?_), Ev.step 2 (fun k => F24_eq k _ _ _ _ _ _ _ _ _ _) (Ev.bind v2 ?_)⟩
    · simp only [Bool.not_true, Bool.false_eq_true, if_false]
      refine Ev.bind h1 ?_
      simp only [bytes_ints]
      exact Ev.now _
    · simp only [Bool.not_true, Bool.false_eq_true, if_false]
      exact Ev.bind h2 (Ev.now _)
end
end Go.Proofs.YtiojgdjpigcgaaaGreatDoor.R
end

section
/-! Rf: no key begins another. -/
set_option autoImplicit false
set_option linter.unusedSimpArgs false
set_option linter.unusedVariables false
namespace Go.Proofs.YtiojgdjpigcgaaaGreatDoor.R
open Go.Rf
theorem ba_list (K : List UInt8) : (ba K).toList = K := by rw [Lib.toList_data]; rfl
theorem u8_nat (z : Int) : ((u8 z).toNat : Int) = z % 256 := by rw [← u8w, wrap8]
def NumS (K : List UInt8) : Prop := K = [128] ∨ ∃ (neg : Bool) (hdr : UInt8) (W : List UInt8), (∀ b ∈ W, 48 ≤ b.toNat ∧ b.toNat ≤ 57) ∧ K = nk neg hdr W
structure BodyS (k0 : Int) (B : List UInt8) : Prop where
  s0 : k0 = 0 → B = []
  s1 : k0 = 1 → B.length = 1
  s2 : k0 = 2 → NumS B
  s3 : k0 = 3 → B.length = 3
  s4 : k0 = 4 → B.length = 6
  s5 : k0 = 5 → ∃ T : List UInt8, (∀ b ∈ T, b ≠ 0) ∧ B = T ++ [0]
theorem term_free : ∀ {T1 T2 : List UInt8}, (∀ b ∈ T1, b ≠ 0) → (∀ b ∈ T2, b ≠ 0) → T1 ++ [0] <+: T2 ++ [0] → T1 = T2
  | [], [], _, _, _ => rfl
  | [], y :: T2, _, h2, h => by
    have h : (0 : UInt8) :: [] <+: y :: (T2 ++ [0]) := h
    rw [List.cons_prefix_cons] at h
    exact absurd h.1.symm (h2 y List.mem_cons_self)
  | x :: T1, [], h1, _, h => by
    have h : x :: (T1 ++ [0]) <+: (0 : UInt8) :: [] := h
    rw [List.cons_prefix_cons] at h
    exact absurd h.1 (h1 x List.mem_cons_self)
  | x :: T1, y :: T2, h1, h2, h => by
    have h : x :: (T1 ++ [0]) <+: y :: (T2 ++ [0]) := h
    rw [List.cons_prefix_cons] at h
    rw [h.1, term_free (fun b hb => h1 b (List.mem_cons_of_mem _ hb)) (fun b hb => h2 b (List.mem_cons_of_mem _ hb)) h.2]
theorem gb_ne {b : UInt8} (h : 48 ≤ b.toNat ∧ b.toNat ≤ 57) : gb b ≠ 0 := fun e => by
  have h1 := congrArg UInt8.toNat e
  have h2 := u8_nat (IntKind.u8.wrap ((b.toNat : Int) - 48) + 1)
  rw [wrap8] at h2
  have h0 : (0 : UInt8).toNat = 0 := rfl
  have h3 : (gb b).toNat = (u8 (IntKind.u8.wrap ((b.toNat : Int) - 48) + 1)).toNat := rfl
  rw [wrap8] at h3
  omega
theorem dig_free {W1 W2 : List UInt8} (h1 : ∀ b ∈ W1, 48 ≤ b.toNat ∧ b.toNat ≤ 57) (h2 : ∀ b ∈ W2, 48 ≤ b.toNat ∧ b.toNat ≤ 57) (h : dig W1 <+: dig W2) : dig W1 = dig W2 := by
  have hh : ∀ {W : List UInt8}, (∀ b ∈ W, 48 ≤ b.toNat ∧ b.toNat ≤ 57) → ∀ b ∈ W.map gb, b ≠ 0 := fun {W} hW b hb => by
    obtain ⟨c, hc, rfl⟩ := List.mem_map.1 hb
    exact gb_ne (hW c hc)
  unfold dig at h ⊢
  rw [term_free (hh h1) (hh h2) h]
theorem turn_turn (b : UInt8) : turn (turn b) = b := by
  refine UInt8.toNat.inj ?_
  unfold turn
  have h1 := u8_nat (255 - ((u8 (255 - (b.toNat : Int))).toNat : Int))
  have h2 := u8_nat (255 - (b.toNat : Int))
  have h3 : b.toNat < 256 := UInt8.toNat_lt b
  omega
theorem flip_flip (K : List UInt8) : flip (flip K) = K := by
  unfold flip
  rw [List.map_map]
  exact (List.map_congr_left (fun b _ => turn_turn b)).trans (List.map_id K)
theorem flip_pre {a b : List UInt8} (h : flip a <+: flip b) : a <+: b := by
  have h2 : flip (flip a) <+: flip (flip b) := List.IsPrefix.map turn h
  rwa [flip_flip, flip_flip] at h2
theorem num_free {B1 B2 : List UInt8} (h1 : NumS B1) (h2 : NumS B2) (h : B1 <+: B2) : B1 = B2 := by
  rcases h1 with rfl | ⟨n1, d1, W1, w1, rfl⟩
  · rcases h2 with rfl | ⟨n2, d2, W2, w2, rfl⟩
    · rfl
    · unfold nk at h
      cases n2
      · rw [if_neg (by simp), List.cons_prefix_cons] at h; exact absurd h.1 (by decide)
      · rw [if_pos rfl, List.cons_prefix_cons] at h; exact absurd h.1 (by decide)
  · rcases h2 with rfl | ⟨n2, d2, W2, w2, rfl⟩
    · unfold nk at h
      cases n1
      · rw [if_neg (by simp), List.cons_prefix_cons] at h; exact absurd h.1 (by decide)
      · rw [if_pos rfl, List.cons_prefix_cons] at h; exact absurd h.1 (by decide)
    · have same : d1 :: dig W1 <+: d2 :: dig W2 → d1 :: dig W1 = d2 :: dig W2 := fun h => by
        rw [List.cons_prefix_cons] at h
        rw [h.1, dig_free w1 w2 h.2]
      unfold nk at h ⊢
      cases n1 <;> cases n2
      · simp only [Bool.false_eq_true, if_false] at h ⊢
        rw [List.cons_prefix_cons] at h
        rw [same h.2]
      · simp only [Bool.false_eq_true, if_false, if_true] at h ⊢
        rw [List.cons_prefix_cons] at h
        exact absurd h.1 (by decide)
      · simp only [Bool.false_eq_true, if_false, if_true] at h ⊢
        rw [List.cons_prefix_cons] at h
        exact absurd h.1 (by decide)
      · simp only [if_true] at h ⊢
        rw [List.cons_prefix_cons] at h
        rw [same (flip_pre h.2)]
theorem pre_len {a b : List UInt8} (h : a <+: b) (e : a.length = b.length) : a = b := h.eq_of_length e
theorem body_free {k0 : Int} {B1 B2 : List UInt8} (hk : 0 ≤ k0 ∧ k0 ≤ 5) (S1 : BodyS k0 B1) (S2 : BodyS k0 B2) (h : B1 <+: B2) : B1 = B2 := by
  have : k0 = 0 ∨ k0 = 1 ∨ k0 = 2 ∨ k0 = 3 ∨ k0 = 4 ∨ k0 = 5 := by omega
  rcases this with e | e | e | e | e | e
  · rw [S1.s0 e, S2.s0 e]
  · exact pre_len h (by rw [S1.s1 e, S2.s1 e])
  · exact num_free (S1.s2 e) (S2.s2 e) h
  · exact pre_len h (by rw [S1.s3 e, S2.s3 e])
  · exact pre_len h (by rw [S1.s4 e, S2.s4 e])
  · obtain ⟨T1, h1, rfl⟩ := S1.s5 e
    obtain ⟨T2, h2, rfl⟩ := S2.s5 e
    rw [term_free h1 h2 h]
theorem dd_range : ∀ (n : Nat), ∀ b ∈ Lib.decDigits n, 48 ≤ b.toNat ∧ b.toNat ≤ 57 := by
  intro n
  induction n using Nat.strongRecOn with
  | _ n ih =>
    intro b hb
    unfold Lib.decDigits at hb
    by_cases h : n < 10
    · rw [dif_pos h, List.mem_singleton] at hb
      rw [hb, UInt8.toNat_ofNat']
      omega
    · rw [dif_neg h, List.mem_append, List.mem_singleton] at hb
      rcases hb with hb | hb
      · exact ih (n / 10) (by omega) b hb
      · rw [hb, UInt8.toNat_ofNat']
        omega
theorem trim_mem {T : List UInt8} {c b : UInt8} (h : b ∈ Lib.trimRightB T c) : b ∈ T := by
  unfold Lib.trimRightB at h
  rw [List.mem_reverse] at h
  exact List.mem_reverse.1 ((List.dropWhile_sublist _).subset h)
theorem num_shape {z : Int} {t : Nat} (hz : z.natAbs < 10 ^ 30) (ht : t ≤ 12) : ∃ K : List UInt8, NumS K ∧ K.length ≤ 1000 ∧ Ev (fun k => F86 k (decide (z < 0)) (digs z.natAbs) (t : Int)) ((ints K, ()), (((), (), (), ()), ())) := by
  have l16 := len16 hz
  obtain ⟨i1, i2, i3⟩ := trim_both (n := decide (z < 0)) (l := digs z.natAbs) (s0 := (t : Int)) t z.natAbs ht l16 (fun e => decide_eq_false (by omega))
  obtain ⟨s1, s2, _⟩ := trimN_spec t z.natAbs
  obtain ⟨V, hV⟩ : ∃ V, V = (trimN z.natAbs t).1 := ⟨_, rfl⟩
  obtain ⟨r, hr⟩ : ∃ r, r = (trimN z.natAbs t).2 := ⟨_, rfl⟩
  rw [← hV, ← hr] at i2
  rw [← hV] at i1
  rw [← hV, ← hr] at s2
  rw [← hr] at s1
  have hd : Ev (fun k => F128 k (decide (z < 0)) (digs z.natAbs) (t : Int)) (((decide (z < 0), digs V, (r : Int), ()), ()), (((), (), (), ()), ())) := by
    have dok := DecOk_ev (decide (z < 0)) (digs z.natAbs) (t : Int) (by omega)
    rw [decOk_D hz ht] at dok
    refine Ev.step 2 (fun k => F128_eq k _ _ _) (Ev.bind dok ?_)
    simp only [Bool.not_true, Bool.false_eq_true, if_false]
    exact i2
  have e0 : (((digs V).length : Int) == 0) = decide (V = 0) := len_is0 V
  by_cases h0 : V = 0
  · have e1 : (((digs V).length : Int) == 0) = true := by rw [e0, decide_eq_true h0]
    refine ⟨[128], .inl rfl, by simp, Ev.step 2 (fun k => F86_eq k _ _ _) (Ev.bind hd ?_)⟩
    simp only [e1, if_true]
    exact Ev.now _
  · obtain ⟨T, hT⟩ : ∃ T, T = Lib.decDigits V := ⟨_, rfl⟩
    have hVlt : V < 10 ^ 30 := by
      have : V ≤ z.natAbs := by
        rw [← s2]
        exact Nat.le_mul_of_pos_right _ (Nat.pow_pos (by omega))
      omega
    have hlong : ¬ long (digs V) > 30 := fun h => (long30 V).1 h hVlt
    rw [long_digs, if_neg h0, ← hT] at hlong
    have tl : T.length ≤ 30 := by omega
    have htx := text_ev (digs_InR V) (show (digs V).length ≤ 1000000 by omega)
    rw [textL_digs, ← hT] at htx
    have wl := trimB_len T
    refine ⟨nk (decide (z < 0)) (u8 (64 + (T.length : Int) - r)) (Lib.trimRightB T 48), .inr ⟨_, _, _, fun b hb => dd_range V b (by rw [← hT]; exact trim_mem hb), rfl⟩, ?_, Ev.step 2 (fun k => F86_eq k _ _ _) (Ev.bind hd ?_)⟩
    · unfold nk
      have := dig_len (Lib.trimRightB T 48)
      split
      · rw [List.length_cons, flip_len, List.length_cons]; omega
      · rw [List.length_cons, List.length_cons]; omega
    · simp only [e0, h0, decide_false, Bool.false_eq_true, if_false]
      have htr : Ev (fun k => F130 k (ba T) (⟨#[48]⟩ : ByteArray)) ((ba (Lib.trimRightB T 48), ()), ((), (), ())) := by
        refine Ev.step 1 (fun k => F130_eq k _ _) ?_
        have : trimR (ba T, (⟨#[48]⟩ : ByteArray), ()) = some ((ba (Lib.trimRightB T 48), ()), ((), (), ())) := by
          have hb : Nat.ble (ba T).size 9223372036854775807 = true := Nat.ble_eq_true_of_le (by rw [ba_size]; omega)
          show (bif Nat.blt (48 : UInt8).toNat 128 && Nat.ble (ba T).size 9223372036854775807 then _ else _) = _
          rw [hb]
          rfl
        rw [this]
        exact Ev.now _
      refine Ev.bind htx (Ev.bind htr ?_)
      have ew : IntKind.i64.wrap (IntKind.i64.wrap (64 + (((ba T).size : Nat) : Int)) - (r : Int)) = 64 + (T.length : Int) - r := by
        rw [ba_size, wrap64 (show -9223372036854775808 ≤ 64 + (T.length : Int) by omega) (by omega), wrap64 (by omega) (by omega)]
      have := nkC (n := decide (z < 0)) (l := digs V) (s := (r : Int)) (W := Lib.trimRightB T 48) (hdr := u8 (64 + (T.length : Int) - r)) (by omega) (Lib.trimRightB T 48).length 0 (by omega)
      show Ev (fun k => F86c7 k (decide (z < 0)) (digs V) (r : Int) [IntKind.u8.wrap (IntKind.i64.wrap (IntKind.i64.wrap (64 + (((ba T).size : Nat) : Int)) - (r : Int)))] (ints (Lib.trimRightB T 48)) ((ints (Lib.trimRightB T 48)).length : Int) 0) _
      rw [ew, ints1, ints_len]
      exact this
section
variable {k0 : Int} {y n : Bool} {l : List Int} {s day mo da : Int} {t : ByteArray}
theorem key_shape (h : vOk k0 y n l s day mo da t = true) : ∃ B : List UInt8, BodyS k0 B ∧ Ev (fun k => F37 k k0 y n l s day mo da t false) ((ints (u8 (IntKind.i64.wrap (k0 + 1)) :: B), ()), (((), (), (), (), (), (), (), (), (), ()), (), ())) := by
  have hk := vOk_kind h
  have fin : ∀ {B : List UInt8}, B.length ≤ 2000 → BodyS k0 B →
      (∀ {r}, Ev (fun k => F37c13 k false (ints (u8 (IntKind.i64.wrap (k0 + 1)) :: B))) r → Ev (fun k => F37 k k0 y n l s day mo da t false) r) → ∃ B : List UInt8, BodyS k0 B ∧ Ev (fun k => F37 k k0 y n l s day mo da t false) ((ints (u8 (IntKind.i64.wrap (k0 + 1)) :: B), ()), (((), (), (), (), (), (), (), (), (), ()), (), ())) := fun {B} hB hS hi => by
    have := hi (key_end false _ (by rw [List.length_cons]; omega))
    exact ⟨B, hS, by simpa using this⟩
  have hd : ∀ {B : List UInt8}, B.length ≤ 2000 → (decide ([IntKind.u8.wrap (IntKind.i64.wrap (k0 + 1))].length + (ints B).length ≤ 140737488355328)) = true := fun {B} hB => decide_eq_true (by rw [ints_len, List.length_singleton]; omega)
  have hj : ∀ B : List UInt8, [IntKind.u8.wrap (IntKind.i64.wrap (k0 + 1))] ++ ints B = ints (u8 (IntKind.i64.wrap (k0 + 1)) :: B) := fun B => by rw [ints1, ints_app]; rfl
  by_cases g1 : k0 = 1
  · refine fin (B := [u8 (bit y)]) (by simp) ⟨by omega, fun _ => rfl, by omega, by omega, by omega, by omega⟩ (fun {r} hr => Ev.step 2 (fun k => F37_eq k _ _ _ _ _ _ _ _ _ _) ?_)
    simp only [beq_iff_eq.2 g1, if_true]
    refine Ev.bind (truth_ev y) ?_
    rw [ints1 (bit y), hd (by simp)]
    simp only [if_true, hj]
    exact hr
  have b1 := beq_eq_false_iff_ne.2 g1
  by_cases g2 : k0 = 2
  · obtain ⟨z, u, rfl, rfl, rfl, hz, hu⟩ := decOk_ex (vOk_num _ _ _ _ _ _ _ _ _ h g2)
    obtain ⟨B, hS, hB, h1⟩ := num_shape hz hu
    refine fin (B := B) (by omega) ⟨by omega, by omega, fun _ => hS, by omega, by omega, by omega⟩ (fun {r} hr => Ev.step 2 (fun k => F37_eq k _ _ _ _ _ _ _ _ _ _) ?_)
    simp only [b1, beq_iff_eq.2 g2, Bool.false_eq_true, if_false, if_true]
    refine Ev.bind h1 ?_
    rw [hd (by omega)]
    simp only [if_true, hj]
    exact hr
  have b2 := beq_eq_false_iff_ne.2 g2
  by_cases g3 : k0 = 3
  · refine fin (B := k3 day) (by simp [k3]) ⟨by omega, by omega, by omega, fun _ => rfl, by omega, by omega⟩ (fun {r} hr => Ev.step 2 (fun k => F37_eq k _ _ _ _ _ _ _ _ _ _) ?_)
    simp only [b1, b2, beq_iff_eq.2 g3, Bool.false_eq_true, if_false, if_true]
    refine Ev.bind three_ev ?_
    rw [hd (by simp [k3])]
    simp only [if_true, hj]
    exact hr
  have b3 := beq_eq_false_iff_ne.2 g3
  by_cases g4 : k0 = 4
  · refine fin (B := k3 (IntKind.i64.wrap (mo + 120000)) ++ k3 (IntKind.i64.wrap (da + 4000000))) (by simp [k3]) ⟨by omega, by omega, by omega, by omega, fun _ => rfl, by omega⟩ (fun {r} hr => Ev.step 2 (fun k => F37_eq k _ _ _ _ _ _ _ _ _ _) ?_)
    simp only [b1, b2, b3, beq_iff_eq.2 g4, Bool.false_eq_true, if_false, if_true]
    refine Ev.bind three_ev ?_
    rw [hd (by simp [k3])]
    simp only [if_true, hj]
    refine Ev.bind three_ev ?_
    have c : decide ((ints (u8 (IntKind.i64.wrap (k0 + 1)) :: k3 (IntKind.i64.wrap (mo + 120000)))).length + (ints (k3 (IntKind.i64.wrap (da + 4000000)))).length ≤ 140737488355328) = true := decide_eq_true (by rw [ints_len, ints_len]; simp [k3])
    simp only [c, if_true, ints_app, List.cons_append]
    exact hr
  have b4 := beq_eq_false_iff_ne.2 g4
  by_cases g5 : k0 = 5
  · have ht := vOk_text h g5
    have hl : t.data.toList.length ≤ 12 := ht
    have hT : ∀ b ∈ t.data.toList, b ≠ 0 := by
      unfold vOk bodyOk textOk figOk at h
      rw [if_neg (by omega), if_neg (by omega), if_neg (by omega), if_pos g5] at h
      simp only [Bool.and_eq_true] at h
      have hf := h.2.2.2
      rw [List.all_eq_true] at hf
      intro b hb e
      obtain ⟨i, hi, ei⟩ := List.getElem_of_mem hb
      have h1 := hf i (List.mem_range.2 hi)
      obtain ⟨u, hu, hbu⟩ := byteAt (s := t) (i := i) hi
      rw [hbu] at h1
      have hg : t[i]? = some b := by
        rw [← of_data t, ba_get, List.getElem?_eq_getElem hi, ei]
      rw [hu] at hg
      cases hg
      unfold within at h1
      rw [e] at h1
      exact absurd h1 (by decide)
    refine fin (B := t.data.toList ++ [0]) (by rw [List.length_append, List.length_singleton]; omega) ⟨by omega, by omega, by omega, by omega, by omega, fun _ => ⟨_, hT, rfl⟩⟩ (fun {r} hr => Ev.step 2 (fun k => F37_eq k _ _ _ _ _ _ _ _ _ _) ?_)
    have c1 : decide ([IntKind.u8.wrap (IntKind.i64.wrap (k0 + 1))].length + (t.data.toList.map fun b => (b.toNat : Int)).length ≤ 140737488355328) = true := decide_eq_true (by rw [List.length_map, List.length_singleton]; omega)
    have e1 : [IntKind.u8.wrap (IntKind.i64.wrap (k0 + 1))] ++ (t.data.toList.map fun b => (b.toNat : Int)) = ints (u8 (IntKind.i64.wrap (k0 + 1)) :: t.data.toList) := hj t.data.toList
    have c2 : decide ((ints (u8 (IntKind.i64.wrap (k0 + 1)) :: t.data.toList)).length + [(0 : Int)].length ≤ 140737488355328) = true := decide_eq_true (by rw [ints_len, List.length_cons, List.length_singleton]; omega)
    simp only [b1, b2, b3, b4, beq_iff_eq.2 g5, Bool.false_eq_true, if_false, if_true, c1, e1, c2]
    rw [show [(0 : Int)] = ints [0] from rfl, ints_app]
    exact hr
  have b5 := beq_eq_false_iff_ne.2 g5
  · refine fin (B := []) (by simp) ⟨fun _ => rfl, by omega, by omega, by omega, by omega, by omega⟩ (fun {r} hr => Ev.step 2 (fun k => F37_eq k _ _ _ _ _ _ _ _ _ _) ?_)
    simp only [b1, b2, b3, b4, b5, Bool.false_eq_true, if_false]
    rw [ints1]
    exact hr
theorem keyPut_shape (hl : l.length ≤ 1048576) (ht : t.size ≤ 1048576) {K : List UInt8} (hK : Ev (fun k => F13 k k0 y n l s day mo da t false) ((ba K, ()), (((), (), (), (), (), (), (), (), (), ()), (), ()))) :
    K = [] ∨ ((0 ≤ k0 ∧ k0 ≤ 5) ∧ ∃ B, BodyS k0 B ∧ K = u8 (IntKind.i64.wrap (k0 + 1)) :: B) := by
  have v1 := ValueOk_ev k0 y n l s day mo da t hl ht
  have inj : ∀ {K' : List UInt8}, Ev (fun k => F13 k k0 y n l s day mo da t false) ((ba K', ()), (((), (), (), (), (), (), (), (), (), ()), (), ())) → K = K' := fun {K'} h => by
    have := Ev.unique hK h
    have e : ba K = ba K' := by injection this with h1 _; injection h1
    rw [← ba_data K, e, ba_data]
  cases h : vOk k0 y n l s day mo da t with
  | false =>
    rw [h] at v1
    refine .inl (inj (K' := []) (Ev.step 2 (fun k => F13_eq k _ _ _ _ _ _ _ _ _ _) (Ev.bind v1 ?_)))
    simp only [Bool.not_false, if_true]
    exact Ev.now _
  | true =>
    rw [h] at v1
    obtain ⟨B, hS, h1⟩ := key_shape h
    refine .inr ⟨vOk_kind h, B, hS, inj (Ev.step 2 (fun k => F13_eq k _ _ _ _ _ _ _ _ _ _) (Ev.bind v1 ?_))⟩
    simp only [Bool.not_true, Bool.false_eq_true, if_false]
    refine Ev.bind h1 ?_
    simp only [bytes_ints]
    exact Ev.now _
end
/-- no key begins another -/
theorem key_free {k1 k2 : Int} {B1 B2 : List UInt8} (h1 : 0 ≤ k1 ∧ k1 ≤ 5) (h2 : 0 ≤ k2 ∧ k2 ≤ 5) (S1 : BodyS k1 B1) (S2 : BodyS k2 B2) (h : u8 (IntKind.i64.wrap (k1 + 1)) :: B1 <+: u8 (IntKind.i64.wrap (k2 + 1)) :: B2) :
    u8 (IntKind.i64.wrap (k1 + 1)) :: B1 = u8 (IntKind.i64.wrap (k2 + 1)) :: B2 := by
  rw [List.cons_prefix_cons] at h
  have hk : k1 = k2 := by
    have e := congrArg UInt8.toNat h.1
    have a1 := u8_nat (k1 + 1)
    have a2 := u8_nat (k2 + 1)
    rw [wrap64 (by omega) (by omega), wrap64 (by omega) (by omega)] at e
    omega
  subst hk
  rw [body_free h1 S1 S2 h.2]
end Go.Proofs.YtiojgdjpigcgaaaGreatDoor.R
end

section
/-! Rf: figures are read. -/
set_option autoImplicit false
set_option linter.unusedSimpArgs false
set_option linter.unusedVariables false
namespace Go.Proofs.YtiojgdjpigcgaaaGreatDoor.R
open Go.Rf
/-- what figures say -/
def dv (L : List UInt8) : Nat := L.foldl (fun n b => n * 10 + (b.toNat - 48)) 0
def Dig (L : List UInt8) : Prop := ∀ b ∈ L, 48 ≤ b.toNat ∧ b.toNat ≤ 57
theorem Dig.app {K L : List UInt8} (h : Dig K) (h' : Dig L) : Dig (K ++ L) := fun b hb => (List.mem_append.1 hb).elim (h b) (h' b)
theorem Dig.take {L : List UInt8} (h : Dig L) (n : Nat) : Dig (L.take n) := fun b hb => h b (List.mem_of_mem_take hb)
theorem Dig.drop {L : List UInt8} (h : Dig L) (n : Nat) : Dig (L.drop n) := fun b hb => h b (List.mem_of_mem_drop hb)
theorem dv_from : ∀ (L : List UInt8) (acc : Nat), L.foldl (fun n b => n * 10 + (b.toNat - 48)) acc = acc * 10 ^ L.length + dv L
  | [], acc => by simp [dv]
  | b :: L, acc => by
    have h1 := dv_from L (acc * 10 + (b.toNat - 48))
    have h2 := dv_from L (0 * 10 + (b.toNat - 48))
    rw [List.foldl_cons, h1]
    unfold dv
    rw [List.foldl_cons, h2, List.length_cons, Nat.pow_succ, Nat.add_mul, Nat.zero_mul, Nat.zero_add, Nat.mul_assoc, Nat.mul_comm 10]
    unfold dv
    omega
theorem dv_app (K L : List UInt8) : dv (K ++ L) = dv K * 10 ^ L.length + dv L := by
  conv => lhs; unfold dv
  rw [List.foldl_append, dv_from]
  rfl
theorem dv_one (b : UInt8) : dv [b] = b.toNat - 48 := by simp [dv]
theorem dv_nil : dv [] = 0 := rfl
theorem dv_lt : ∀ {L : List UInt8}, Dig L → dv L < 10 ^ L.length
  | [], _ => by simp [dv]
  | b :: L, h => by
    have h1 := dv_lt (L := L) (fun x hx => h x (List.mem_cons_of_mem _ hx))
    have hb := h b List.mem_cons_self
    have e : dv (b :: L) = (b.toNat - 48) * 10 ^ L.length + dv L := by
      rw [show b :: L = [b] ++ L from rfl, dv_app, dv_one]
    rw [e, List.length_cons, Nat.pow_succ]
    have h2 : (b.toNat - 48) * 10 ^ L.length ≤ 9 * 10 ^ L.length := Nat.mul_le_mul_right _ (by omega)
    omega
theorem decFrom_dig : ∀ {L : List UInt8} (acc : Nat), Dig L → Lib.decFrom acc L = some (L.foldl (fun n b => n * 10 + (b.toNat - 48)) acc)
  | [], _, _ => rfl
  | b :: L, acc, h => by
    have hb := h b List.mem_cons_self
    rw [Lib.decFrom, show Lib.digitVal b = some (b.toNat - 48) by unfold Lib.digitVal; rw [if_pos hb], List.foldl_cons]
    exact decFrom_dig _ fun x hx => h x (List.mem_cons_of_mem _ hx)
theorem atoi_dig {L : List UInt8} (h : Dig L) (hne : L ≠ []) : Lib.atoi L = some (dv L : Int) := by
  cases L with
  | nil => exact absurd rfl hne
  | cons b L =>
    have hb := h b List.mem_cons_self
    have e1 : (b == 45) = false := by rw [beq_eq_false_iff_ne]; intro e; subst e; exact absurd hb.1 (by decide)
    have e2 : (b == 43) = false := by rw [beq_eq_false_iff_ne]; intro e; subst e; exact absurd hb.1 (by decide)
    rw [Lib.atoi, e1, e2]
    simp only [Bool.false_eq_true, if_false]
    rw [Lib.decNat, if_neg (by simp), decFrom_dig 0 h]
    rfl
theorem dv_dd (n : Nat) : dv (Lib.decDigits n) = n := by
  induction n using Nat.strongRecOn with
  | _ n ih =>
    by_cases h : n < 10
    · rw [dd1 h, dv_one, UInt8.toNat_ofNat']
      omega
    · rw [ddS h, dv_app, ih (n / 10) (by omega), dv_one, UInt8.toNat_ofNat']
      simp only [List.length_singleton, Nat.pow_one]
      omega
theorem ba_extract (L : List UInt8) (a b : Nat) : (ba L).extract a b = ba ((L.take b).drop a) := by
  have e := List.take_drop (i := b - a) (j := a) (l := L)
  rw [← Lib.mk_data ((ba L).extract a b)]
  show ba ((ba L).extract a b).data.toList = _
  rw [ByteArray.data_extract, Array.toList_extract]
  congr 1
  show ((L.drop a).take (b - a)) = _
  rw [e]
  by_cases hab : a ≤ b
  · rw [show a + (b - a) = b by omega]
  · rw [List.drop_eq_nil_of_le (by rw [List.length_take]; omega), List.drop_eq_nil_of_le (by rw [List.length_take]; omega)]
theorem atoi_ev {L : List UInt8} (h : Dig L) (hne : L ≠ []) (hl : L.length ≤ 18) : Ev (fun k => F141 k (ba L)) (((dv L : Int), true, ()), ((), ())) := by
  refine Ev.step 1 (fun k => F141_eq k _) ?_
  have : atoiR (ba L, ()) = some (((dv L : Int), true, ()), ((), ())) := by
    unfold atoiR
    show (match Lib.atoi L with | some n => _ | none => _) = _
    rw [atoi_dig h hne]
    show (bif Nat.ble (ba L).size 18 then _ else _) = _
    rw [Nat.ble_eq_true_of_le (show (ba L).size ≤ 18 by rw [ba_size]; exact hl)]
    rfl
  rw [this]
  exact Ev.now _
/-- figures, four of them a limb -/
theorem read_ev {L : List UInt8} (hL : Dig L) (hl : L.length ≤ 400) : Ev (fun k => F92 k (ba L)) ((digs (dv L), ()), ((), ())) := by
  have done : ∀ (x : List Int) (z : Int), z ≤ 0 → InR x → x.length ≤ 1000 → VI x = (dv L : Int) → Ev (fun k => F92c3 k (ba L) x z) ((digs (dv L), ()), ((), ())) := by
    intro x z hz hx hxl hV
    refine Ev.step 1 (fun k => F92c3_eq k _ _ _) ?_
    simp only [decide_eq_false (show ¬ z > 0 by omega), Bool.false_eq_true, if_false]
    have ht := trim_ev hx (by omega)
    rw [hV, Int.toNat_natCast] at ht
    exact Ev.bind ht (Ev.now _)
  have key : ∀ (m i : Nat) (x : List Int), i ≤ m → i ≤ L.length → x.length * 4 = L.length - i → InR x → VI x = (dv (L.drop i) : Int) → Ev (fun k => F92c3 k (ba L) x (i : Int)) ((digs (dv L), ()), ((), ())) := by
    intro m
    induction m with
    | zero =>
      intro i x hi hil hx4 hx hV
      obtain rfl : i = 0 := by omega
      rw [List.drop_zero] at hV
      exact done x _ (by omega) hx (by omega) hV
    | succ m ih =>
      intro i x hi hil hx4 hx hV
      by_cases h0 : i = 0
      · subst h0
        rw [List.drop_zero] at hV
        exact done x _ (by omega) hx (by omega) hV
      have ew : IntKind.i64.wrap ((i : Int) - 4) = (i : Int) - 4 := wrap64 (by omega) (by omega)
      have ef : (if (i : Int) - 4 > 0 then (i : Int) - 4 else 0) = ((i - 4 : Nat) : Int) := by split <;> omega
      have hC : Dig ((L.take i).drop (i - 4)) := (hL.take i).drop _
      have hCl : ((L.take i).drop (i - 4)).length = i - (i - 4) := by rw [List.length_drop, List.length_take, Nat.min_eq_left hil]
      have hCn : (L.take i).drop (i - 4) ≠ [] := fun e => by rw [e] at hCl; simp at hCl; omega
      have hd := dv_lt hC
      have hd4 : dv ((L.take i).drop (i - 4)) < 10000 := by
        have : 10 ^ ((L.take i).drop (i - 4)).length ≤ 10 ^ 4 := Nat.pow_le_pow_right (by omega) (by rw [hCl]; omega)
        omega
      have hsplit : L.drop (i - 4) = (L.take i).drop (i - 4) ++ L.drop i := by
        conv => lhs; rw [← List.take_append_drop i L]
        rw [List.drop_append_of_le_length (by rw [List.length_take]; omega)]
      have hV2 : VI (x ++ [(dv ((L.take i).drop (i - 4)) : Int)]) = (dv (L.drop (i - 4)) : Int) := by
        have e4 : (10 : Nat) ^ (x.length * 4) = 10000 ^ x.length := by rw [Nat.mul_comm, Nat.pow_mul]
        rw [VI_snoc, hV, hsplit, dv_app, List.length_drop, ← hx4, e4]
        rw [Int.natCast_add, Int.natCast_mul, Int.natCast_pow, Int.add_comm]
        rfl
      have hx2 : InR (x ++ [(dv ((L.take i).drop (i - 4)) : Int)]) := inrSnoc hx (by omega)
      have next : Ev (fun k => F92c3 k (ba L) (x ++ [(dv ((L.take i).drop (i - 4)) : Int)]) ((i : Int) - 4)) ((digs (dv L), ()), ((), ())) := by
        by_cases h4 : 4 ≤ i
        · rw [show (i : Int) - 4 = ((i - 4 : Nat) : Int) by omega]
          exact ih (i - 4) _ (by omega) (by omega) (by rw [List.length_append]; simp; omega) hx2 hV2
        · refine done _ _ (by omega) hx2 (by rw [List.length_append]; simp; omega) ?_
          rw [hV2, show i - 4 = 0 by omega, List.drop_zero]
      refine Ev.step 1 (fun k => F92c3_eq k _ _ _) ?_
      have c1 : (decide (0 ≤ ((i - 4 : Nat) : Int)) && decide (((i - 4 : Nat) : Int) ≤ (i : Int)) && decide ((i : Int) ≤ ((ba L).size : Int))) = true := by
        rw [ba_size]; simp; omega
      have c2 : decide (x.length + [(dv ((L.take i).drop (i - 4)) : Int)].length ≤ 17592186044416) = true := decide_eq_true (by simp; omega)
      simp only [decide_eq_true (show (i : Int) > 0 by omega), if_true, ew, ef, c1, Int.toNat_natCast, ba_extract]
      refine Ev.bind (atoi_ev hC hCn (by rw [hCl]; omega)) ?_
      simp only [c2, if_true]
      exact next
  refine Ev.step 2 (fun k => F92_eq k _) ?_
  rw [ba_size]
  exact key L.length L.length [] (Nat.le_refl _) (Nat.le_refl _) (by simp) InR.nil (by rw [List.drop_length]; rfl)
end Go.Proofs.YtiojgdjpigcgaaaGreatDoor.R
end

section
/-! Rf: how values compare is an order. -/
set_option autoImplicit false
set_option linter.unusedSimpArgs false
set_option linter.unusedVariables false
namespace Go.Proofs.YtiojgdjpigcgaaaGreatDoor.R
open Go.Rf
theorem zc_self (x : Int) : zc x x = 0 := zc_zero.2 rfl
theorem zc_swap (x y : Int) : zc y x = -zc x y := by
  unfold zc
  by_cases a : x < y
  · rw [if_pos a, if_neg (by omega), if_pos (by omega)]; rfl
  · by_cases b : y < x
    · rw [if_pos b, if_neg (by omega), if_pos (by omega)]
    · rw [if_neg b, if_neg (by omega), if_neg a, if_neg (by omega)]; rfl
theorem zc_le {x y : Int} : zc x y ≤ 0 ↔ x ≤ y := by
  unfold zc
  by_cases a : x < y
  · rw [if_pos a]; constructor <;> intro <;> omega
  · by_cases b : y < x
    · rw [if_neg a, if_pos (by omega)]; constructor <;> intro <;> omega
    · rw [if_neg a, if_neg (by omega)]; constructor <;> intro <;> omega
theorem zc_lt {x y : Int} : zc x y < 0 ↔ x < y := by
  unfold zc
  by_cases a : x < y
  · rw [if_pos a]; constructor <;> intro <;> omega
  · by_cases b : y < x
    · rw [if_neg a, if_pos (by omega)]; constructor <;> intro <;> omega
    · rw [if_neg a, if_neg (by omega)]; constructor <;> intro <;> omega
theorem zc_range (x y : Int) : -1 ≤ zc x y ∧ zc x y ≤ 1 := by
  unfold zc
  split
  · omega
  · split <;> omega
theorem zc_cmpZ (x y : Int) : cmpZ x y = zc x y := by
  unfold zc cmpZ
  by_cases a : x < y
  · rw [if_pos a, if_pos a]
  · by_cases b : y < x
    · rw [if_neg a, if_neg (by omega), if_neg a, if_pos (by omega)]
    · rw [if_neg a, if_pos (by omega), if_neg a, if_neg (by omega)]
theorem zc_mul {x y c : Int} (hc : 0 < c) : zc (x * c) (y * c) = zc x y := by
  unfold zc
  by_cases a : x < y
  · rw [if_pos a, if_pos (Int.mul_lt_mul_of_pos_right a hc)]
  · by_cases b : y < x
    · have := Int.mul_lt_mul_of_pos_right b hc
      rw [if_neg a, if_pos (show x > y by omega), if_neg (by omega), if_pos (by omega)]
    · have e : x = y := by omega
      subst e
      rw [if_neg a, if_neg (by omega), if_neg (by omega), if_neg (by omega)]
theorem cb_swap : ∀ a b : List UInt8, Lib.compareBytes b a = -Lib.compareBytes a b
  | [], [] => rfl
  | [], _ :: _ => rfl
  | _ :: _, [] => rfl
  | x :: a, y :: b => by
    have ih := cb_swap a b
    simp only [Lib.compareBytes, UInt8.lt_iff_toNat_lt]
    by_cases p : x.toNat < y.toNat
    · rw [if_neg (show ¬ y.toNat < x.toNat by omega), if_pos p, if_pos p]; rfl
    · by_cases q : y.toNat < x.toNat
      · rw [if_pos q, if_neg p, if_pos q]
      · rw [if_neg q, if_neg p, if_neg p, if_neg q]; exact ih
theorem tri {X Y Z : Nat} {r1 r2 r3 : Int} (h3 : r1 ≤ 0 → r2 ≤ 0 → r3 ≤ 0) (h1 : (if X < Y then (-1 : Int) else if Y < X then 1 else r1) ≤ 0) (h2 : (if Y < Z then (-1 : Int) else if Z < Y then 1 else r2) ≤ 0) : (if X < Z then (-1 : Int) else if Z < X then 1 else r3) ≤ 0 := by
  by_cases e : X < Z
  · rw [if_pos e]; omega
  rw [if_neg e]
  by_cases a : X < Y
  · by_cases c : Y < Z
    · omega
    · rw [if_neg c] at h2
      by_cases d : Z < Y
      · rw [if_pos d] at h2; omega
      · omega
  · rw [if_neg a] at h1
    by_cases b : Y < X
    · rw [if_pos b] at h1; omega
    rw [if_neg b] at h1
    by_cases c : Y < Z
    · omega
    rw [if_neg c] at h2
    by_cases d : Z < Y
    · rw [if_pos d] at h2; omega
    rw [if_neg d] at h2
    rw [if_neg (by omega)]
    exact h3 h1 h2
theorem cb_trans : ∀ a b c : List UInt8, Lib.compareBytes a b ≤ 0 → Lib.compareBytes b c ≤ 0 → Lib.compareBytes a c ≤ 0
  | [], _, [] => fun _ _ => by decide
  | [], _, _ :: _ => fun _ _ => by show (-1 : Int) ≤ 0; decide
  | _ :: _, [], _ => fun h _ => by have h : (1 : Int) ≤ 0 := h; omega
  | _ :: _, _ :: _, [] => fun _ h => by have h : (1 : Int) ≤ 0 := h; omega
  | x :: a, y :: b, z :: c => fun h1 h2 => by
    simp only [Lib.compareBytes, UInt8.lt_iff_toNat_lt] at h1 h2 ⊢
    exact tri (cb_trans a b c) h1 h2
theorem cb_range (a b : List UInt8) : -1 ≤ Lib.compareBytes a b ∧ Lib.compareBytes a b ≤ 1 := by
  obtain ⟨_, _, h⟩ := less_cmp a b
  omega
/-- a value, as one -/
structure Vw where
  (k : Int) (y n : Bool) (l : List Int) (s d m a : Int) (t : ByteArray)
def Vw.ok (v : Vw) : Bool := vOk v.k v.y v.n v.l v.s v.d v.m v.a v.t
def Vw.c (v w : Vw) : Int := vc v.k v.y v.n v.l v.s v.d v.m v.a v.t w.y w.n w.l w.s w.d w.m w.a w.t
def Vw.o (v w : Vw) : Int := vo v.k v.y v.n v.l v.s v.d v.m v.a v.t w.k w.y w.n w.l w.s w.d w.m w.a w.t
/-- where a value lies among those of its kind -/
def Key (v : Vw) (x : Int) : Prop := (v.k = 1 → x = bit v.y) ∧ (v.k = 2 → ∃ (z : Int) (t : Nat), v.n = decide (z < 0) ∧ v.l = digs z.natAbs ∧ v.s = (t : Int) ∧ t ≤ 12 ∧ x = z * 10 ^ (12 - t)) ∧ (v.k = 3 → x = v.d) ∧ (v.k = 4 → x = v.m * 10000000 + v.a ∧ -4000000 ≤ v.a ∧ v.a ≤ 4000000)
theorem key_ex (v : Vw) (h : v.ok = true) : ∃ x, Key v x := by
  unfold Key
  by_cases h1 : v.k = 1
  · exact ⟨bit v.y, fun _ => rfl, fun e => by omega, fun e => by omega, fun e => by omega⟩
  by_cases h2 : v.k = 2
  · obtain ⟨z, t, e1, e2, e3, _, e4⟩ := decOk_ex (vOk_num _ _ _ _ _ _ _ _ _ h h2)
    exact ⟨z * 10 ^ (12 - t), fun e => absurd e h1, fun _ => ⟨z, t, e1, e2, e3, e4, rfl⟩, fun e => by omega, fun e => by omega⟩
  by_cases h3 : v.k = 3
  · exact ⟨v.d, fun e => absurd e h1, fun e => absurd e h2, fun _ => rfl, fun e => by omega⟩
  by_cases h4 : v.k = 4
  · refine ⟨v.m * 10000000 + v.a, fun e => absurd e h1, fun e => absurd e h2, fun e => absurd e h3, fun _ => ⟨rfl, ?_⟩⟩
    have h : vOk v.k v.y v.n v.l v.s v.d v.m v.a v.t = true := h
    unfold vOk bodyOk spanOk within at h
    rw [if_neg h2, if_neg h3, if_pos h4] at h
    simp only [Bool.and_eq_true, decide_eq_true_iff] at h
    exact ⟨h.2.2.2.1, h.2.2.2.2⟩
  · exact ⟨0, fun e => absurd e h1, fun e => absurd e h2, fun e => absurd e h3, fun e => absurd e h4⟩
theorem c_key {v w : Vw} (hk : v.k = w.k) {x y : Int} (hx : Key v x) (hy : Key w y) : v.c w = if 1 ≤ v.k ∧ v.k ≤ 4 then zc x y else tc v.t w.t := by
  obtain ⟨a1, a2, a3, a4⟩ := hx
  obtain ⟨b1, b2, b3, b4⟩ := hy
  unfold Vw.c vc
  by_cases h1 : v.k = 1
  · rw [if_pos h1, if_pos (by omega), a1 h1, b1 (by omega)]
  by_cases h2 : v.k = 2
  · obtain ⟨z1, t1, e1, e2, e3, g1, rfl⟩ := a2 h2
    obtain ⟨z2, t2, e4, e5, e6, g2, rfl⟩ := b2 (by omega)
    rw [if_neg h1, if_pos h2, if_pos (by omega), e1, e2, e3, e4, e5, e6, Int.toNat_natCast, Int.toNat_natCast, dCmp_D, zc_cmpZ, ← zc_mul (pow10_pos (12 - max t1 t2)), Int.mul_assoc, Int.mul_assoc, ← Int.pow_add, ← Int.pow_add, show max t1 t2 - t1 + (12 - max t1 t2) = 12 - t1 by omega, show max t1 t2 - t2 + (12 - max t1 t2) = 12 - t2 by omega]
  by_cases h3 : v.k = 3
  · rw [if_neg h1, if_neg h2, if_pos h3, if_pos (by omega), a3 h3, b3 (by omega)]
  by_cases h4 : v.k = 4
  · obtain ⟨e1, e2, e3⟩ := a4 h4
    obtain ⟨e4, e5, e6⟩ := b4 (by omega)
    rw [if_neg h1, if_neg h2, if_neg h3, if_pos h4, if_pos (show 1 ≤ v.k ∧ v.k ≤ 4 by omega), e1, e4]
    unfold zc
    by_cases hm : v.m = w.m
    · rw [if_pos hm, hm]
      by_cases p : v.a < w.a
      · rw [if_pos p, if_pos (by omega)]
      · by_cases q : v.a > w.a
        · rw [if_neg p, if_pos q, if_neg (by omega), if_pos (by omega)]
        · rw [if_neg p, if_neg q, if_neg (by omega), if_neg (by omega)]
    · rw [if_neg hm]
      by_cases p : v.m < w.m
      · rw [if_pos p, if_pos (by omega)]
      · rw [if_neg p, if_pos (by omega), if_neg (by omega), if_pos (by omega)]
  · rw [if_neg h1, if_neg h2, if_neg h3, if_neg h4, if_neg (by omega)]
theorem o_key {v w : Vw} {x y : Int} (hx : Key v x) (hy : Key w y) : v.o w = if v.k = w.k then (if 1 ≤ v.k ∧ v.k ≤ 4 then zc x y else tc v.t w.t) else zc v.k w.k := by
  unfold Vw.o vo
  by_cases h : v.k = w.k
  · rw [if_pos h, if_pos h]
    exact c_key h hx hy
  · rw [if_neg h, if_neg h]
theorem o_range {v w : Vw} (hv : v.ok = true) (hw : w.ok = true) : -1 ≤ v.o w ∧ v.o w ≤ 1 := by
  obtain ⟨x, hx⟩ := key_ex v hv
  obtain ⟨y, hy⟩ := key_ex w hw
  rw [o_key hx hy]
  split
  · split
    · exact zc_range _ _
    · exact cb_range _ _
  · exact zc_range _ _
theorem o_swap {v w : Vw} (hv : v.ok = true) (hw : w.ok = true) : w.o v = -v.o w := by
  obtain ⟨x, hx⟩ := key_ex v hv
  obtain ⟨y, hy⟩ := key_ex w hw
  rw [o_key hx hy, o_key hy hx]
  by_cases h : v.k = w.k
  · rw [if_pos h, if_pos h.symm, ← h]
    split
    · exact zc_swap _ _
    · exact cb_swap _ _
  · rw [if_neg h, if_neg (Ne.symm h)]
    exact zc_swap _ _
theorem o_self {v : Vw} (hv : v.ok = true) : v.o v = 0 := by
  have := o_swap hv hv
  omega
theorem o_le {v w : Vw} (hv : v.ok = true) (hw : w.ok = true) (h : v.o w ≤ 0) : v.k ≤ w.k := by
  obtain ⟨x, hx⟩ := key_ex v hv
  obtain ⟨y, hy⟩ := key_ex w hw
  rw [o_key hx hy] at h
  by_cases e : v.k = w.k
  · omega
  · rw [if_neg e, zc_le] at h; exact h
theorem o_trans {v w u : Vw} (hv : v.ok = true) (hw : w.ok = true) (hu : u.ok = true) (h1 : v.o w ≤ 0) (h2 : w.o u ≤ 0) : v.o u ≤ 0 := by
  have k1 := o_le hv hw h1
  have k2 := o_le hw hu h2
  obtain ⟨x, hx⟩ := key_ex v hv
  obtain ⟨y, hy⟩ := key_ex w hw
  obtain ⟨z, hz⟩ := key_ex u hu
  rw [o_key hx hy] at h1
  rw [o_key hy hz] at h2
  rw [o_key hx hz]
  by_cases e : v.k = u.k
  · have e1 : v.k = w.k := by omega
    have e2 : w.k = u.k := by omega
    rw [if_pos e1] at h1
    rw [if_pos e2, ← e1] at h2
    rw [if_pos e]
    by_cases r : 1 ≤ v.k ∧ v.k ≤ 4
    · rw [if_pos r, zc_le] at h1 h2 ⊢
      omega
    · rw [if_neg r] at h1 h2 ⊢
      exact cb_trans _ _ _ h1 h2
  · rw [if_neg e, zc_le]
    omega
theorem o_trans' {v w u : Vw} (hv : v.ok = true) (hw : w.ok = true) (hu : u.ok = true) (h1 : 0 ≤ v.o w) (h2 : 0 ≤ w.o u) : 0 ≤ v.o u := by
  have := o_trans hu hw hv (by rw [o_swap hw hu]; omega) (by rw [o_swap hv hw]; omega)
  rw [o_swap hv hu] at this
  omega
theorem o_kind {v w : Vw} (hv : v.ok = true) (hw : w.ok = true) (hk : v.k ≠ w.k) : (v.k < w.k) ↔ v.o w < 0 := by
  obtain ⟨x, hx⟩ := key_ex v hv
  obtain ⟨y, hy⟩ := key_ex w hw
  rw [o_key hx hy, if_neg hk, zc_lt]
/-- the null -/
def nul : Vw := ⟨0, false, false, [], 0, 0, 0, 0, ByteArray.empty⟩
theorem nul_ok : nul.ok = true := by
  unfold Vw.ok nul vOk bareOk bodyOk within noText decZ
  simp
theorem nul_le {v : Vw} (hv : v.ok = true) : nul.o v ≤ 0 := by
  obtain ⟨x, hx⟩ := key_ex nul nul_ok
  obtain ⟨y, hy⟩ := key_ex v hv
  have hk := (vOk_kind hv).1
  have n0 : nul.k = 0 := rfl
  rw [o_key hx hy]
  by_cases h : nul.k = v.k
  · have ht := vOk_noText hv (show v.k ≠ 5 by omega)
    rw [if_pos h, if_neg (by omega)]
    unfold tc
    rw [ht]
    exact Int.le_refl _
  · rw [if_neg h, zc_le, n0]
    exact hk
end Go.Proofs.YtiojgdjpigcgaaaGreatDoor.R
end

section
/-! Rf: keys stand in the order of what they say: lists of bytes, figures. -/
set_option autoImplicit false
set_option linter.unusedSimpArgs false
set_option linter.unusedVariables false
namespace Go.Proofs.YtiojgdjpigcgaaaGreatDoor.R
open Go.Rf
abbrev cb := Lib.compareBytes
theorem cb_cons (x y : UInt8) (a b : List UInt8) : cb (x :: a) (y :: b) = if x.toNat < y.toNat then -1 else if y.toNat < x.toNat then 1 else cb a b := by
  show Lib.compareBytes (x :: a) (y :: b) = _
  simp only [Lib.compareBytes, UInt8.lt_iff_toNat_lt]
theorem cb_self : ∀ a : List UInt8, cb a a = 0
  | [] => rfl
  | x :: a => by rw [cb_cons, if_neg (by omega), if_neg (by omega)]; exact cb_self a
theorem cb_app : ∀ {a b : List UInt8} (x y : List UInt8), a.length = b.length → cb (a ++ x) (b ++ y) = if cb a b = 0 then cb x y else cb a b
  | [], [], x, y, _ => by rw [if_pos (cb_self [])]; rfl
  | [], _ :: _, _, _, h => by simp at h
  | _ :: _, [], _, _, h => by simp at h
  | u :: a, v :: b, x, y, h => by
    have ih := cb_app x y (show a.length = b.length by simpa using h)
    rw [List.cons_append, List.cons_append, cb_cons, cb_cons]
    by_cases p : u.toNat < v.toNat
    · rw [if_pos p, if_pos p, if_neg (by omega)]
    · by_cases q : v.toNat < u.toNat
      · rw [if_neg p, if_pos q, if_neg p, if_pos q, if_neg (by omega)]
      · rw [if_neg p, if_neg q, if_neg p, if_neg q]; exact ih
theorem turn_nat (b : UInt8) : (turn b).toNat = 255 - b.toNat := by
  unfold turn
  have h2 := u8_nat (255 - (b.toNat : Int))
  have h3 : b.toNat < 256 := UInt8.toNat_lt b
  omega
theorem cb_flip : ∀ {a b : List UInt8}, (a <+: b → a = b) → (b <+: a → b = a) → cb (flip a) (flip b) = -cb a b
  | [], [], _, _ => rfl
  | [], y :: b, h, _ => by have := h List.nil_prefix; cases this
  | x :: a, [], _, h => by have := h List.nil_prefix; cases this
  | x :: a, y :: b, h1, h2 => by
    have hx : x.toNat < 256 := UInt8.toNat_lt x
    have hy : y.toNat < 256 := UInt8.toNat_lt y
    show cb (turn x :: flip a) (turn y :: flip b) = _
    rw [cb_cons, cb_cons, turn_nat, turn_nat]
    by_cases p : x.toNat < y.toNat
    · rw [if_neg (show ¬ 255 - x.toNat < 255 - y.toNat by omega), if_pos (show 255 - y.toNat < 255 - x.toNat by omega), if_pos p]; rfl
    · by_cases q : y.toNat < x.toNat
      · rw [if_pos (show 255 - x.toNat < 255 - y.toNat by omega), if_neg p, if_pos q]
      · have e : x = y := UInt8.toNat.inj (by omega)
        subst e
        rw [if_neg (by omega), if_neg (by omega), if_neg p, if_neg q]
        refine cb_flip (fun h => ?_) (fun h => ?_)
        · have := h1 (List.cons_prefix_cons.2 ⟨rfl, h⟩); injection this
        · have := h2 (List.cons_prefix_cons.2 ⟨rfl, h⟩); injection this
theorem cb_term : ∀ {a b : List UInt8}, (∀ x ∈ a, x ≠ 0) → (∀ x ∈ b, x ≠ 0) → cb (a ++ [0]) (b ++ [0]) = cb a b
  | [], [], _, _ => rfl
  | [], y :: b, _, h => by
    have hy : y.toNat ≠ 0 := fun e => h y List.mem_cons_self (UInt8.toNat.inj e)
    show cb (0 :: []) (y :: (b ++ [0])) = -1
    rw [cb_cons, if_pos (show (0 : UInt8).toNat < y.toNat by show 0 < y.toNat; omega)]
  | x :: a, [], h, _ => by
    have hx : x.toNat ≠ 0 := fun e => h x List.mem_cons_self (UInt8.toNat.inj e)
    show cb (x :: (a ++ [0])) (0 :: []) = 1
    rw [cb_cons, if_neg (show ¬ x.toNat < (0 : UInt8).toNat by show ¬ x.toNat < 0; omega), if_pos (show (0 : UInt8).toNat < x.toNat by show 0 < x.toNat; omega)]
  | x :: a, y :: b, h1, h2 => by
    rw [List.cons_append, List.cons_append, cb_cons, cb_cons, cb_term (fun z hz => h1 z (List.mem_cons_of_mem _ hz)) (fun z hz => h2 z (List.mem_cons_of_mem _ hz))]
theorem cb_k3 {x y : Int} (h1 : 0 ≤ x ∧ x < 16777216) (h2 : 0 ≤ y ∧ y < 16777216) : cb (k3 x) (k3 y) = zc x y := by
  unfold k3
  rw [cb_cons, cb_cons, cb_cons, cb_self]
  have a1 := u8_nat (x / 65536)
  have a2 := u8_nat (x / 256)
  have a3 := u8_nat x
  have b1 := u8_nat (y / 65536)
  have b2 := u8_nat (y / 256)
  have b3 := u8_nat y
  unfold zc
  repeat' split
  all_goals omega
/-! ### figures -/
theorem gb_nat {b : UInt8} (h : 48 ≤ b.toNat ∧ b.toNat ≤ 57) : (gb b).toNat = b.toNat - 47 := by
  have h2 := u8_nat (IntKind.u8.wrap ((b.toNat : Int) - 48) + 1)
  have h3 : (gb b).toNat = (u8 (IntKind.u8.wrap ((b.toNat : Int) - 48) + 1)).toNat := rfl
  rw [wrap8] at h2 h3
  omega
theorem trimB_cons (x : UInt8) (P : List UInt8) : Lib.trimRightB (x :: P) 48 = if Lib.trimRightB P 48 = [] then (if x = 48 then [] else [x]) else x :: Lib.trimRightB P 48 := by
  unfold Lib.trimRightB
  rw [List.reverse_cons, List.dropWhile_append]
  by_cases h : (P.reverse.dropWhile fun b => b == 48) = []
  · rw [h]
    by_cases hx : x = 48
    · simp [hx]
    · simp [hx]
  · have h' : ¬ (P.reverse.dropWhile fun b => b == 48).isEmpty = true := by simpa using h
    rw [if_neg h', if_neg (by simpa using h)]
    simp
theorem cb_trim : ∀ {P1 P2 : List UInt8}, P1.length = P2.length → (∀ b ∈ P1, 48 ≤ b.toNat ∧ b.toNat ≤ 57) → (∀ b ∈ P2, 48 ≤ b.toNat ∧ b.toNat ≤ 57) →
    cb (dig (Lib.trimRightB P1 48)) (dig (Lib.trimRightB P2 48)) = cb P1 P2
  | [], [], _, _, _ => rfl
  | [], _ :: _, h, _, _ => by simp at h
  | _ :: _, [], h, _, _ => by simp at h
  | x :: P1, y :: P2, h, h1, h2 => by
    have ih := cb_trim (show P1.length = P2.length by simpa using h) (fun b hb => h1 b (List.mem_cons_of_mem _ hb)) (fun b hb => h2 b (List.mem_cons_of_mem _ hb))
    have hx := h1 x List.mem_cons_self
    have hy := h2 y List.mem_cons_self
    have gx := gb_nat hx
    have gy := gb_nat hy
    have n48 : (48 : UInt8).toNat = 48 := rfl
    have z0 : (0 : UInt8).toNat = 0 := rfl
    have d0 : dig [] = [0] := rfl
    have dc : ∀ (u : UInt8) (W : List UInt8), dig (u :: W) = gb u :: dig W := fun u W => rfl
    rw [trimB_cons, trimB_cons, cb_cons]
    have hd : ∀ {P : List UInt8}, (∀ b ∈ P, 48 ≤ b.toNat ∧ b.toNat ≤ 57) → Lib.trimRightB P 48 ≠ [] → ∃ c W, dig (Lib.trimRightB P 48) = c :: W ∧ 0 < c.toNat := fun {P} hP hne => by
      obtain ⟨c, W, e⟩ := List.exists_cons_of_ne_nil hne
      refine ⟨gb c, dig W, by rw [e]; rfl, ?_⟩
      have := gb_nat (hP c (trim_mem (by rw [e]; exact List.mem_cons_self)))
      have := hP c (trim_mem (by rw [e]; exact List.mem_cons_self))
      omega
    by_cases e1 : Lib.trimRightB P1 48 = []
    · by_cases e2 : Lib.trimRightB P2 48 = []
      · rw [if_pos e1, if_pos e2]
        rw [e1, e2, cb_self] at ih
        rw [← ih]
        by_cases c1 : x = 48
        · by_cases c2 : y = 48
          · rw [if_pos c1, if_pos c2, c1, c2, cb_self, if_neg (by omega), if_neg (by omega)]
          · have : y.toNat ≠ 48 := fun e => c2 (UInt8.toNat.inj (by omega))
            rw [if_pos c1, if_neg c2, c1, d0, dc, cb_cons, if_pos (by omega), if_pos (by omega)]
        · have c1' : x.toNat ≠ 48 := fun e => c1 (UInt8.toNat.inj (by omega))
          by_cases c2 : y = 48
          · rw [if_neg c1, if_pos c2, c2, d0, dc, cb_cons, if_neg (by omega), if_pos (by omega), if_neg (by omega), if_pos (by omega)]
          · rw [if_neg c1, if_neg c2, dc, dc, cb_cons, cb_self, gx, gy]
            repeat' split
            all_goals omega
      · rw [if_pos e1, if_neg e2]
        obtain ⟨c, W, ec, hc⟩ := hd (fun b hb => h2 b (List.mem_cons_of_mem _ hb)) e2
        have ih' : cb P1 P2 = -1 := by rw [← ih, e1, d0, ec, cb_cons, if_pos (by omega)]
        by_cases c1 : x = 48
        · rw [if_pos c1, d0, dc, cb_cons, if_pos (by omega), ih', c1]
          repeat' split
          all_goals omega
        · rw [if_neg c1, dc, dc, cb_cons, gx, gy, ih', d0, ec, cb_cons, if_pos (show (0 : UInt8).toNat < c.toNat by omega)]
          repeat' split
          all_goals omega
    · by_cases e2 : Lib.trimRightB P2 48 = []
      · rw [if_neg e1, if_pos e2]
        obtain ⟨c, W, ec, hc⟩ := hd (fun b hb => h1 b (List.mem_cons_of_mem _ hb)) e1
        have ih' : cb P1 P2 = 1 := by rw [← ih, e2, d0, ec, cb_cons, if_neg (by omega), if_pos (by omega)]
        by_cases c2 : y = 48
        · rw [if_pos c2, d0, dc, cb_cons, if_neg (by omega), if_pos (by omega), ih', c2]
          repeat' split
          all_goals omega
        · rw [if_neg c2, dc, dc, cb_cons, gx, gy, ih', d0, ec, cb_cons, if_neg (show ¬ c.toNat < (0 : UInt8).toNat by omega), if_pos (show (0 : UInt8).toNat < c.toNat by omega)]
          repeat' split
          all_goals omega
      · rw [if_neg e1, if_neg e2, dc, dc, cb_cons, gx, gy, ih]
        repeat' split
        all_goals omega
theorem dd_lt (n : Nat) : ∀ (m : Nat), (Lib.decDigits m).length = n → 0 < n ∧ m < 10 ^ n ∧ (0 < m → 10 ^ (n - 1) ≤ m) := by
  induction n with
  | zero =>
    intro m h
    unfold Lib.decDigits at h
    split at h
    · simp at h
    · rw [List.length_append] at h; simp at h
  | succ n ih =>
    intro m h
    unfold Lib.decDigits at h
    by_cases hm : m < 10
    · rw [dif_pos hm] at h
      have : n = 0 := by simpa using h.symm
      subst this
      exact ⟨by omega, by simpa using hm, fun h0 => by simp; omega⟩
    · rw [dif_neg hm, List.length_append, List.length_singleton] at h
      obtain ⟨h1, h2, h3⟩ := ih (m / 10) (by omega)
      have h3 := h3 (by omega)
      have e : 10 ^ (n + 1) = 10 ^ n * 10 := Nat.pow_succ ..
      have e2 : 10 ^ n = 10 ^ (n - 1) * 10 := by rw [← Nat.pow_succ, show (n - 1).succ = n by omega]
      refine ⟨by omega, by omega, fun _ => ?_⟩
      rw [show n + 1 - 1 = n by omega]
      omega
theorem dd_cmp : ∀ (n a b : Nat), (Lib.decDigits a).length = n → (Lib.decDigits b).length = n → cb (Lib.decDigits a) (Lib.decDigits b) = zc (a : Int) (b : Int) := by
  intro n
  induction n with
  | zero => intro a b h _; have := dd_lt 0 a h; omega
  | succ n ih =>
    intro a b ha hb
    have la := dd_lt (n + 1) a ha
    have lb := dd_lt (n + 1) b hb
    unfold Lib.decDigits at ha hb ⊢
    by_cases h1 : a < 10
    · rw [dif_pos h1] at ha ⊢
      have n0 : n = 0 := by simpa using ha.symm
      subst n0
      have h2 : b < 10 := by have := lb.2.1; omega
      rw [dif_pos h2, cb_cons, cb_self, UInt8.toNat_ofNat', UInt8.toNat_ofNat']
      unfold zc
      repeat' split
      all_goals omega
    · rw [dif_neg h1] at ha ⊢
      rw [List.length_append, List.length_singleton] at ha
      by_cases h2 : b < 10
      · rw [dif_pos h2] at hb
        have n0 : n = 0 := by simpa using hb.symm
        subst n0
        have := dd_lt 0 (a / 10) (by omega)
        omega
      · rw [dif_neg h2] at hb ⊢
        rw [List.length_append, List.length_singleton] at hb
        have hi := ih (a / 10) (b / 10) (by omega) (by omega)
        rw [cb_app _ _ (show (Lib.decDigits (a / 10)).length = (Lib.decDigits (b / 10)).length by omega), hi, cb_cons, cb_self, UInt8.toNat_ofNat', UInt8.toNat_ofNat']
        unfold zc
        repeat' split
        all_goals omega
theorem dd_ten (V : Nat) (hV : 0 < V) : ∀ k : Nat, Lib.decDigits (V * 10 ^ k) = Lib.decDigits V ++ List.replicate k 48
  | 0 => by simp
  | k + 1 => by
    have h1 : ¬ V * 10 ^ (k + 1) < 10 := by
      have : 0 < V * 10 ^ k := Nat.mul_pos hV (Nat.pow_pos (by omega))
      rw [Nat.pow_succ, ← Nat.mul_assoc]; omega
    have e : Lib.decDigits (V * 10 ^ (k + 1)) = Lib.decDigits (V * 10 ^ (k + 1) / 10) ++ [UInt8.ofNat (48 + V * 10 ^ (k + 1) % 10)] := by
      conv => lhs; unfold Lib.decDigits
      rw [dif_neg h1]
    rw [e, Nat.pow_succ, ← Nat.mul_assoc, Nat.mul_div_cancel _ (by omega), Nat.mul_mod_left, dd_ten V hV k, List.append_assoc, List.replicate_succ']
    rfl
theorem trim_rep (T : List UInt8) : ∀ k : Nat, Lib.trimRightB (T ++ List.replicate k 48) 48 = Lib.trimRightB T 48
  | 0 => by simp
  | k + 1 => by rw [List.replicate_succ', ← List.append_assoc, trimB_zero, trim_rep T k]
/-- keys of numbers above nought -/
theorem pos_cmp {V1 V2 r1 r2 : Nat} (h1 : 0 < V1) (h2 : 0 < V2) (l1 : (Lib.decDigits V1).length ≤ 30) (l2 : (Lib.decDigits V2).length ≤ 30) (g1 : r1 ≤ 12) (g2 : r2 ≤ 12) :
    cb (u8 (64 + ((Lib.decDigits V1).length : Int) - r1) :: dig (Lib.trimRightB (Lib.decDigits V1) 48)) (u8 (64 + ((Lib.decDigits V2).length : Int) - r2) :: dig (Lib.trimRightB (Lib.decDigits V2) 48)) = zc ((V1 * 10 ^ (12 - r1) : Nat) : Int) ((V2 * 10 ^ (12 - r2) : Nat) : Int) := by
  have a1 := u8_nat (64 + ((Lib.decDigits V1).length : Int) - r1)
  have a2 := u8_nat (64 + ((Lib.decDigits V2).length : Int) - r2)
  have d1 := dd_ten V1 h1 (12 - r1)
  have d2 := dd_ten V2 h2 (12 - r2)
  have p1 : 0 < V1 * 10 ^ (12 - r1) := Nat.mul_pos h1 (Nat.pow_pos (by omega))
  have p2 : 0 < V2 * 10 ^ (12 - r2) := Nat.mul_pos h2 (Nat.pow_pos (by omega))
  have n1 : (Lib.decDigits (V1 * 10 ^ (12 - r1))).length = (Lib.decDigits V1).length + (12 - r1) := by rw [d1, List.length_append, List.length_replicate]
  have n2 : (Lib.decDigits (V2 * 10 ^ (12 - r2))).length = (Lib.decDigits V2).length + (12 - r2) := by rw [d2, List.length_append, List.length_replicate]
  have b1 := dd_lt _ _ n1
  have b2 := dd_lt _ _ n2
  rw [cb_cons]
  by_cases hlt : (Lib.decDigits V1).length + (12 - r1) < (Lib.decDigits V2).length + (12 - r2)
  · have hp : 10 ^ ((Lib.decDigits V1).length + (12 - r1)) ≤ 10 ^ ((Lib.decDigits V2).length + (12 - r2) - 1) := Nat.pow_le_pow_right (by omega) (by omega)
    have := b1.2.1
    have := b2.2.2 p2
    rw [if_pos (by omega)]
    unfold zc
    rw [if_pos (by omega)]
  by_cases hgt : (Lib.decDigits V2).length + (12 - r2) < (Lib.decDigits V1).length + (12 - r1)
  · have hp : 10 ^ ((Lib.decDigits V2).length + (12 - r2)) ≤ 10 ^ ((Lib.decDigits V1).length + (12 - r1) - 1) := Nat.pow_le_pow_right (by omega) (by omega)
    have := b2.2.1
    have := b1.2.2 p1
    rw [if_neg (by omega), if_pos (by omega)]
    unfold zc
    rw [if_neg (by omega), if_pos (by omega)]
  · rw [if_neg (by omega), if_neg (by omega)]
    have hc := cb_trim (P1 := Lib.decDigits (V1 * 10 ^ (12 - r1))) (P2 := Lib.decDigits (V2 * 10 ^ (12 - r2))) (by omega) (dd_range _) (dd_range _)
    rw [dd_cmp _ _ _ n1 (by omega), d1, d2, trim_rep, trim_rep] at hc
    exact hc
end Go.Proofs.YtiojgdjpigcgaaaGreatDoor.R
end

section
/-! Rf: keys stand in the order of what they say. -/
set_option autoImplicit false
set_option linter.unusedSimpArgs false
set_option linter.unusedVariables false
namespace Go.Proofs.YtiojgdjpigcgaaaGreatDoor.R
open Go.Rf
def NumX (x : Int) (B : List UInt8) : Prop := (x = 0 ∧ B = [128]) ∨ ∃ (V r : Nat), 0 < V ∧ (Lib.decDigits V).length ≤ 30 ∧ r ≤ 12 ∧ x.natAbs = V * 10 ^ (12 - r) ∧ B = nk (decide (x < 0)) (u8 (64 + ((Lib.decDigits V).length : Int) - r)) (Lib.trimRightB (Lib.decDigits V) 48)
structure BodyX (k0 : Int) (y n : Bool) (l : List Int) (s day mo da : Int) (t : ByteArray) (B : List UInt8) : Prop where
  s0 : k0 = 0 → B = []
  s1 : k0 = 1 → B = [u8 (bit y)]
  s2 : k0 = 2 → ∃ (z : Int) (u : Nat), n = decide (z < 0) ∧ l = digs z.natAbs ∧ s = (u : Int) ∧ u ≤ 12 ∧ NumX (z * 10 ^ (12 - u)) B
  s3 : k0 = 3 → B = k3 day
  s4 : k0 = 4 → B = k3 (mo + 120000) ++ k3 (da + 4000000)
  s5 : k0 = 5 → (∀ b ∈ t.data.toList, b ≠ 0) ∧ B = t.data.toList ++ [0]
theorem nk_pos (d : UInt8) (W : List UInt8) : nk false d W = 129 :: (d :: dig W) := rfl
theorem nk_neg (d : UInt8) (W : List UInt8) : nk true d W = 127 :: flip (d :: dig W) := rfl
theorem numX_cmp {x1 x2 : Int} {B1 B2 : List UInt8} (h1 : NumX x1 B1) (h2 : NumX x2 B2) : cb B1 B2 = zc x1 x2 := by
  have q7 : (127 : UInt8).toNat = 127 := rfl
  have q8 : (128 : UInt8).toNat = 128 := rfl
  have q9 : (129 : UInt8).toNat = 129 := rfl
  rcases h1 with ⟨e1, rfl⟩ | ⟨V1, r1, v1, l1, g1, a1, rfl⟩
  · rcases h2 with ⟨e2, rfl⟩ | ⟨V2, r2, v2, l2, g2, a2, rfl⟩
    · rw [cb_self, e1, e2]; rfl
    · have p2 : 0 < V2 * 10 ^ (12 - r2) := Nat.mul_pos v2 (Nat.pow_pos (by omega))
      by_cases n2 : x2 < 0
      · rw [decide_eq_true n2, nk_neg, cb_cons, if_neg (by omega), if_pos (by omega)]
        unfold zc
        rw [if_neg (by omega), if_pos (by omega)]
      · rw [decide_eq_false n2, nk_pos, cb_cons, if_pos (by omega)]
        unfold zc
        rw [if_pos (by omega)]
  · have p1 : 0 < V1 * 10 ^ (12 - r1) := Nat.mul_pos v1 (Nat.pow_pos (by omega))
    rcases h2 with ⟨e2, rfl⟩ | ⟨V2, r2, v2, l2, g2, a2, rfl⟩
    · by_cases n1 : x1 < 0
      · rw [decide_eq_true n1, nk_neg, cb_cons, if_pos (by omega)]
        unfold zc
        rw [if_pos (by omega)]
      · rw [decide_eq_false n1, nk_pos, cb_cons, if_neg (by omega), if_pos (by omega)]
        unfold zc
        rw [if_neg (by omega), if_pos (by omega)]
    · have p2 : 0 < V2 * 10 ^ (12 - r2) := Nat.mul_pos v2 (Nat.pow_pos (by omega))
      have hc := pos_cmp v1 v2 l1 l2 g1 g2
      by_cases n1 : x1 < 0
      · by_cases n2 : x2 < 0
        · rw [decide_eq_true n1, decide_eq_true n2, nk_neg, nk_neg, cb_cons, if_neg (by omega), if_neg (by omega)]
          have fr : ∀ {V V' : Nat} {d d' : UInt8}, d :: dig (Lib.trimRightB (Lib.decDigits V) 48) <+: d' :: dig (Lib.trimRightB (Lib.decDigits V') 48) → d :: dig (Lib.trimRightB (Lib.decDigits V) 48) = d' :: dig (Lib.trimRightB (Lib.decDigits V') 48) := fun {V V' d d'} h => by
            rw [List.cons_prefix_cons] at h
            rw [h.1, dig_free (fun b hb => dd_range V b (trim_mem hb)) (fun b hb => dd_range V' b (trim_mem hb)) h.2]
          rw [cb_flip fr fr, hc, ← zc_swap]
          rw [show x1 = -((V1 * 10 ^ (12 - r1) : Nat) : Int) by omega, show x2 = -((V2 * 10 ^ (12 - r2) : Nat) : Int) by omega]
          unfold zc
          repeat' split
          all_goals omega
        · rw [decide_eq_true n1, decide_eq_false n2, nk_neg, nk_pos, cb_cons, if_pos (by omega)]
          unfold zc
          rw [if_pos (by omega)]
      · by_cases n2 : x2 < 0
        · rw [decide_eq_false n1, decide_eq_true n2, nk_neg, nk_pos, cb_cons, if_neg (by omega), if_pos (by omega)]
          unfold zc
          rw [if_neg (by omega), if_pos (by omega)]
        · rw [decide_eq_false n1, decide_eq_false n2, nk_pos, nk_pos, cb_cons, if_neg (by omega), if_neg (by omega), hc]
          rw [show x1 = ((V1 * 10 ^ (12 - r1) : Nat) : Int) by omega, show x2 = ((V2 * 10 ^ (12 - r2) : Nat) : Int) by omega]
theorem num_exact {z : Int} {t : Nat} (hz : z.natAbs < 10 ^ 30) (ht : t ≤ 12) : ∃ K : List UInt8, NumX (z * 10 ^ (12 - t)) K ∧ K.length ≤ 1000 ∧ Ev (fun k => F86 k (decide (z < 0)) (digs z.natAbs) (t : Int)) ((ints K, ()), (((), (), (), ()), ())) := by
  have l16 := len16 hz
  obtain ⟨i1, i2, i3⟩ := trim_both (n := decide (z < 0)) (l := digs z.natAbs) (s0 := (t : Int)) t z.natAbs ht l16 (fun e => decide_eq_false (by omega))
  obtain ⟨s1, s2, _⟩ := trimN_spec t z.natAbs
  obtain ⟨V, hV⟩ : ∃ V, V = (trimN z.natAbs t).1 := ⟨_, rfl⟩
  obtain ⟨r, hr⟩ : ∃ r, r = (trimN z.natAbs t).2 := ⟨_, rfl⟩
  rw [← hV, ← hr] at i2
  rw [← hV] at i1
  rw [← hV, ← hr] at s2
  rw [← hr] at s1
  have hd : Ev (fun k => F128 k (decide (z < 0)) (digs z.natAbs) (t : Int)) (((decide (z < 0), digs V, (r : Int), ()), ()), (((), (), (), ()), ())) := by
    have dok := DecOk_ev (decide (z < 0)) (digs z.natAbs) (t : Int) (by omega)
    rw [decOk_D hz ht] at dok
    refine Ev.step 2 (fun k => F128_eq k _ _ _) (Ev.bind dok ?_)
    simp only [Bool.not_true, Bool.false_eq_true, if_false]
    exact i2
  have e0 : (((digs V).length : Int) == 0) = decide (V = 0) := len_is0 V
  by_cases h0 : V = 0
  · have e1 : (((digs V).length : Int) == 0) = true := by rw [e0, decide_eq_true h0]
    have hz0 : z = 0 := by rw [h0, Nat.zero_mul] at s2; omega
    refine ⟨[128], .inl ⟨by rw [hz0, Int.zero_mul], rfl⟩, by simp, Ev.step 2 (fun k => F86_eq k _ _ _) (Ev.bind hd ?_)⟩
    simp only [e1, if_true]
    exact Ev.now _
  · obtain ⟨T, hT⟩ : ∃ T, T = Lib.decDigits V := ⟨_, rfl⟩
    have hVlt : V < 10 ^ 30 := by
      have : V ≤ z.natAbs := by
        rw [← s2]
        exact Nat.le_mul_of_pos_right _ (Nat.pow_pos (by omega))
      omega
    have hlong : ¬ long (digs V) > 30 := fun h => (long30 V).1 h hVlt
    rw [long_digs, if_neg h0, ← hT] at hlong
    have tl : T.length ≤ 30 := by omega
    have htx := text_ev (digs_InR V) (show (digs V).length ≤ 1000000 by omega)
    rw [textL_digs, ← hT] at htx
    have wl := trimB_len T
    have hpow : (0 : Int) < 10 ^ (12 - t) := pow10_pos _
    have hA : (z * 10 ^ (12 - t)).natAbs = V * 10 ^ (12 - r) := by
      rw [Int.natAbs_mul, ← s2, show ((10 : Int) ^ (12 - t)).natAbs = 10 ^ (12 - t) by rw [Int.natAbs_pow]; rfl, Nat.mul_assoc, ← Nat.pow_add, show t - r + (12 - t) = 12 - r by omega]
    have hsg : decide (z * 10 ^ (12 - t) < 0) = decide (z < 0) := by
      rw [decide_eq_decide]
      constructor
      · intro h
        refine Decidable.by_contra fun hn => ?_
        have := Int.mul_nonneg (show 0 ≤ z by omega) (Int.le_of_lt hpow)
        omega
      · intro h
        exact Int.mul_neg_of_neg_of_pos h hpow
    refine ⟨nk (decide (z < 0)) (u8 (64 + (T.length : Int) - r)) (Lib.trimRightB T 48), .inr ⟨V, r, by omega, by rw [← hT]; exact tl, by omega, hA, by rw [hsg, ← hT]⟩, ?_, Ev.step 2 (fun k => F86_eq k _ _ _) (Ev.bind hd ?_)⟩
    · unfold nk
      have := dig_len (Lib.trimRightB T 48)
      split
      · rw [List.length_cons, flip_len, List.length_cons]; omega
      · rw [List.length_cons, List.length_cons]; omega
    · simp only [e0, h0, decide_false, Bool.false_eq_true, if_false]
      have htr : Ev (fun k => F130 k (ba T) (⟨#[48]⟩ : ByteArray)) ((ba (Lib.trimRightB T 48), ()), ((), (), ())) := by
        refine Ev.step 1 (fun k => F130_eq k _ _) ?_
        have : trimR (ba T, (⟨#[48]⟩ : ByteArray), ()) = some ((ba (Lib.trimRightB T 48), ()), ((), (), ())) := by
          have hb : Nat.ble (ba T).size 9223372036854775807 = true := Nat.ble_eq_true_of_le (by rw [ba_size]; omega)
          show (bif Nat.blt (48 : UInt8).toNat 128 && Nat.ble (ba T).size 9223372036854775807 then _ else _) = _
          rw [hb]
          rfl
        rw [this]
        exact Ev.now _
      refine Ev.bind htx (Ev.bind htr ?_)
      have ew : IntKind.i64.wrap (IntKind.i64.wrap (64 + (((ba T).size : Nat) : Int)) - (r : Int)) = 64 + (T.length : Int) - r := by
        rw [ba_size, wrap64 (show -9223372036854775808 ≤ 64 + (T.length : Int) by omega) (by omega), wrap64 (by omega) (by omega)]
      have := nkC (n := decide (z < 0)) (l := digs V) (s := (r : Int)) (W := Lib.trimRightB T 48) (hdr := u8 (64 + (T.length : Int) - r)) (by omega) (Lib.trimRightB T 48).length 0 (by omega)
      show Ev (fun k => F86c7 k (decide (z < 0)) (digs V) (r : Int) [IntKind.u8.wrap (IntKind.i64.wrap (IntKind.i64.wrap (64 + (((ba T).size : Nat) : Int)) - (r : Int)))] (ints (Lib.trimRightB T 48)) ((ints (Lib.trimRightB T 48)).length : Int) 0) _
      rw [ew, ints1, ints_len]
      exact this
section
variable {k0 : Int} {y n : Bool} {l : List Int} {s day mo da : Int} {t : ByteArray}
theorem key_exact2 (h : vOk k0 y n l s day mo da t = true) : ∃ B : List UInt8, BodyX k0 y n l s day mo da t B ∧ B.length ≤ 2000 ∧ ∀ down : Bool, Ev (fun k => F37 k k0 y n l s day mo da t down) ((ints (if down = true then flip (u8 (IntKind.i64.wrap (k0 + 1)) :: B) else u8 (IntKind.i64.wrap (k0 + 1)) :: B), ()), (((), (), (), (), (), (), (), (), (), ()), (), ())) := by
  have hk := vOk_kind h
  have fin : ∀ {B : List UInt8}, B.length ≤ 2000 → BodyX k0 y n l s day mo da t B →
      (∀ (down : Bool) {r}, Ev (fun k => F37c13 k down (ints (u8 (IntKind.i64.wrap (k0 + 1)) :: B))) r → Ev (fun k => F37 k k0 y n l s day mo da t down) r) → ∃ B : List UInt8, BodyX k0 y n l s day mo da t B ∧ B.length ≤ 2000 ∧ ∀ down : Bool, Ev (fun k => F37 k k0 y n l s day mo da t down) ((ints (if down = true then flip (u8 (IntKind.i64.wrap (k0 + 1)) :: B) else u8 (IntKind.i64.wrap (k0 + 1)) :: B), ()), (((), (), (), (), (), (), (), (), (), ()), (), ())) := fun {B} hB hS hi =>
    ⟨B, hS, hB, fun down => hi down (key_end down _ (by rw [List.length_cons]; omega))⟩
  have hd : ∀ {B : List UInt8}, B.length ≤ 2000 → (decide ([IntKind.u8.wrap (IntKind.i64.wrap (k0 + 1))].length + (ints B).length ≤ 140737488355328)) = true := fun {B} hB => decide_eq_true (by rw [ints_len, List.length_singleton]; omega)
  have hj : ∀ B : List UInt8, [IntKind.u8.wrap (IntKind.i64.wrap (k0 + 1))] ++ ints B = ints (u8 (IntKind.i64.wrap (k0 + 1)) :: B) := fun B => by rw [ints1, ints_app]; rfl
  by_cases g1 : k0 = 1
  · refine fin (B := [u8 (bit y)]) (by simp) ⟨by omega, fun _ => rfl, by omega, by omega, by omega, by omega⟩ (fun down {r} hr => Ev.step 2 (fun k => F37_eq k _ _ _ _ _ _ _ _ _ _) ?_)
    simp only [beq_iff_eq.2 g1, if_true]
    refine Ev.bind (truth_ev y) ?_
    rw [ints1 (bit y), hd (by simp)]
    simp only [if_true, hj]
    exact hr
  have b1 := beq_eq_false_iff_ne.2 g1
  by_cases g2 : k0 = 2
  · obtain ⟨z, u, rfl, rfl, rfl, hz, hu⟩ := decOk_ex (vOk_num _ _ _ _ _ _ _ _ _ h g2)
    obtain ⟨B, hS, hB, h1⟩ := num_exact hz hu
    refine fin (B := B) (by omega) ⟨by omega, by omega, fun _ => ⟨z, u, rfl, rfl, rfl, hu, hS⟩, by omega, by omega, by omega⟩ (fun down {r} hr => Ev.step 2 (fun k => F37_eq k _ _ _ _ _ _ _ _ _ _) ?_)
    simp only [b1, beq_iff_eq.2 g2, Bool.false_eq_true, if_false, if_true]
    refine Ev.bind h1 ?_
    rw [hd (by omega)]
    simp only [if_true, hj]
    exact hr
  have b2 := beq_eq_false_iff_ne.2 g2
  by_cases g3 : k0 = 3
  · refine fin (B := k3 day) (by simp [k3]) ⟨by omega, by omega, by omega, fun _ => rfl, by omega, by omega⟩ (fun down {r} hr => Ev.step 2 (fun k => F37_eq k _ _ _ _ _ _ _ _ _ _) ?_)
    simp only [b1, b2, beq_iff_eq.2 g3, Bool.false_eq_true, if_false, if_true]
    refine Ev.bind three_ev ?_
    rw [hd (by simp [k3])]
    simp only [if_true, hj]
    exact hr
  have b3 := beq_eq_false_iff_ne.2 g3
  by_cases g4 : k0 = 4
  · obtain ⟨hm, hda⟩ := vOk_span h g4
    have w1 : IntKind.i64.wrap (mo + 120000) = mo + 120000 := wrap64 (by omega) (by omega)
    have w2 : IntKind.i64.wrap (da + 4000000) = da + 4000000 := wrap64 (by omega) (by omega)
    refine fin (B := k3 (IntKind.i64.wrap (mo + 120000)) ++ k3 (IntKind.i64.wrap (da + 4000000))) (by simp [k3]) ⟨by omega, by omega, by omega, by omega, fun _ => by rw [w1, w2], by omega⟩ (fun down {r} hr => Ev.step 2 (fun k => F37_eq k _ _ _ _ _ _ _ _ _ _) ?_)
    simp only [b1, b2, b3, beq_iff_eq.2 g4, Bool.false_eq_true, if_false, if_true]
    refine Ev.bind three_ev ?_
    rw [hd (by simp [k3])]
    simp only [if_true, hj]
    refine Ev.bind three_ev ?_
    have c : decide ((ints (u8 (IntKind.i64.wrap (k0 + 1)) :: k3 (IntKind.i64.wrap (mo + 120000)))).length + (ints (k3 (IntKind.i64.wrap (da + 4000000)))).length ≤ 140737488355328) = true := decide_eq_true (by rw [ints_len, ints_len]; simp [k3])
    simp only [c, if_true, ints_app, List.cons_append]
    exact hr
  have b4 := beq_eq_false_iff_ne.2 g4
  by_cases g5 : k0 = 5
  · have ht := vOk_text h g5
    have hl : t.data.toList.length ≤ 12 := ht
    have hT : ∀ b ∈ t.data.toList, b ≠ 0 := by
      unfold vOk bodyOk textOk figOk at h
      rw [if_neg (by omega), if_neg (by omega), if_neg (by omega), if_pos g5] at h
      simp only [Bool.and_eq_true] at h
      have hf := h.2.2.2
      rw [List.all_eq_true] at hf
      intro b hb e
      obtain ⟨i, hi, ei⟩ := List.getElem_of_mem hb
      have h1 := hf i (List.mem_range.2 hi)
      obtain ⟨u, hu, hbu⟩ := byteAt (s := t) (i := i) hi
      rw [hbu] at h1
      have hg : t[i]? = some b := by
        rw [← of_data t, ba_get, List.getElem?_eq_getElem hi, ei]
      rw [hu] at hg
      cases hg
      unfold within at h1
      rw [e] at h1
      exact absurd h1 (by decide)
    refine fin (B := t.data.toList ++ [0]) (by rw [List.length_append, List.length_singleton]; omega) ⟨by omega, by omega, by omega, by omega, by omega, fun _ => ⟨hT, rfl⟩⟩ (fun down {r} hr => Ev.step 2 (fun k => F37_eq k _ _ _ _ _ _ _ _ _ _) ?_)
    have c1 : decide ([IntKind.u8.wrap (IntKind.i64.wrap (k0 + 1))].length + (t.data.toList.map fun b => (b.toNat : Int)).length ≤ 140737488355328) = true := decide_eq_true (by rw [List.length_map, List.length_singleton]; omega)
    have e1 : [IntKind.u8.wrap (IntKind.i64.wrap (k0 + 1))] ++ (t.data.toList.map fun b => (b.toNat : Int)) = ints (u8 (IntKind.i64.wrap (k0 + 1)) :: t.data.toList) := hj t.data.toList
    have c2 : decide ((ints (u8 (IntKind.i64.wrap (k0 + 1)) :: t.data.toList)).length + [(0 : Int)].length ≤ 140737488355328) = true := decide_eq_true (by rw [ints_len, List.length_cons, List.length_singleton]; omega)
    simp only [b1, b2, b3, b4, beq_iff_eq.2 g5, Bool.false_eq_true, if_false, if_true, c1, e1, c2]
    rw [show [(0 : Int)] = ints [0] from rfl, ints_app]
    exact hr
  have b5 := beq_eq_false_iff_ne.2 g5
  · refine fin (B := []) (by simp) ⟨fun _ => rfl, by omega, by omega, by omega, by omega, by omega⟩ (fun down {r} hr => Ev.step 2 (fun k => F37_eq k _ _ _ _ _ _ _ _ _ _) ?_)
    simp only [b1, b2, b3, b4, b5, Bool.false_eq_true, if_false]
    rw [ints1]
    exact hr
theorem key_exact (h : vOk k0 y n l s day mo da t = true) : ∃ B : List UInt8, BodyX k0 y n l s day mo da t B ∧ ∀ down : Bool, Ev (fun k => F37 k k0 y n l s day mo da t down) ((ints (if down = true then flip (u8 (IntKind.i64.wrap (k0 + 1)) :: B) else u8 (IntKind.i64.wrap (k0 + 1)) :: B), ()), (((), (), (), (), (), (), (), (), (), ()), (), ())) := by
  obtain ⟨B, h1, _, h2⟩ := key_exact2 h
  exact ⟨B, h1, h2⟩
end
theorem zc_add (x y c : Int) : zc (x + c) (y + c) = zc x y := by
  unfold zc
  repeat' split
  all_goals omega
theorem body_cmp {k0 : Int} {y1 n1 : Bool} {l1 : List Int} {s1 d1 m1 a1 : Int} {t1 : ByteArray} {y2 n2 : Bool} {l2 : List Int} {s2 d2 m2 a2 : Int} {t2 : ByteArray} {B1 B2 : List UInt8} (o1 : vOk k0 y1 n1 l1 s1 d1 m1 a1 t1 = true) (o2 : vOk k0 y2 n2 l2 s2 d2 m2 a2 t2 = true)
    (S1 : BodyX k0 y1 n1 l1 s1 d1 m1 a1 t1 B1) (S2 : BodyX k0 y2 n2 l2 s2 d2 m2 a2 t2 B2) : cb B1 B2 = vc k0 y1 n1 l1 s1 d1 m1 a1 t1 y2 n2 l2 s2 d2 m2 a2 t2 := by
  have hk := vOk_kind o1
  unfold vc
  by_cases c1 : k0 = 1
  · rw [if_pos c1, S1.s1 c1, S2.s1 c1]
    cases y1 <;> cases y2 <;> decide
  by_cases c2 : k0 = 2
  · obtain ⟨z1, u1, e1, e2, e3, g1, q1⟩ := S1.s2 c2
    obtain ⟨z2, u2, e4, e5, e6, g2, q2⟩ := S2.s2 c2
    have hz : zc (z1 * 10 ^ (max u1 u2 - u1)) (z2 * 10 ^ (max u1 u2 - u2)) = zc (z1 * 10 ^ (12 - u1)) (z2 * 10 ^ (12 - u2)) := by
      rw [← zc_mul (pow10_pos (12 - max u1 u2)), Int.mul_assoc, Int.mul_assoc, ← Int.pow_add, ← Int.pow_add, show max u1 u2 - u1 + (12 - max u1 u2) = 12 - u1 by omega, show max u1 u2 - u2 + (12 - max u1 u2) = 12 - u2 by omega]
    rw [if_neg c1, if_pos c2, numX_cmp q1 q2, e1, e2, e3, e4, e5, e6, Int.toNat_natCast, Int.toNat_natCast, dCmp_D, zc_cmpZ, hz]
  by_cases c3 : k0 = 3
  · have b1 := vOk_day o1 c3
    have b2 := vOk_day o2 c3
    rw [if_neg c1, if_neg c2, if_pos c3, S1.s3 c3, S2.s3 c3, cb_k3 (by omega) (by omega)]
  by_cases c4 : k0 = 4
  · obtain ⟨b1, b2⟩ := vOk_span o1 c4
    obtain ⟨b3, b4⟩ := vOk_span o2 c4
    rw [if_neg c1, if_neg c2, if_neg c3, if_pos c4, S1.s4 c4, S2.s4 c4, cb_app _ _ (by simp [k3]), cb_k3 (by omega) (by omega), cb_k3 (by omega) (by omega), zc_add, zc_add]
    by_cases hm : m1 = m2
    · rw [if_pos hm, if_pos (zc_zero.2 hm)]
    · rw [if_neg hm, if_neg (fun h => hm (zc_zero.1 h))]
  rw [if_neg c1, if_neg c2, if_neg c3, if_neg c4]
  by_cases c5 : k0 = 5
  · obtain ⟨h1, e1⟩ := S1.s5 c5
    obtain ⟨h2, e2⟩ := S2.s5 c5
    rw [e1, e2, cb_term h1 h2]
    rfl
  · have c0 : k0 = 0 := by omega
    rw [S1.s0 c0, S2.s0 c0]
    unfold tc
    rw [vOk_noText o1 c5, vOk_noText o2 c5]
theorem key_cmp {k1 : Int} {y1 n1 : Bool} {l1 : List Int} {s1 d1 m1 a1 : Int} {t1 : ByteArray} {k2 : Int} {y2 n2 : Bool} {l2 : List Int} {s2 d2 m2 a2 : Int} {t2 : ByteArray} {B1 B2 : List UInt8} (o1 : vOk k1 y1 n1 l1 s1 d1 m1 a1 t1 = true) (o2 : vOk k2 y2 n2 l2 s2 d2 m2 a2 t2 = true)
    (S1 : BodyX k1 y1 n1 l1 s1 d1 m1 a1 t1 B1) (S2 : BodyX k2 y2 n2 l2 s2 d2 m2 a2 t2 B2) : cb (u8 (IntKind.i64.wrap (k1 + 1)) :: B1) (u8 (IntKind.i64.wrap (k2 + 1)) :: B2) = vo k1 y1 n1 l1 s1 d1 m1 a1 t1 k2 y2 n2 l2 s2 d2 m2 a2 t2 := by
  have h1 := vOk_kind o1
  have h2 := vOk_kind o2
  have e1 := u8_nat (k1 + 1)
  have e2 := u8_nat (k2 + 1)
  rw [wrap64 (show -9223372036854775808 ≤ k1 + 1 by omega) (by omega), wrap64 (show -9223372036854775808 ≤ k2 + 1 by omega) (by omega), cb_cons]
  unfold vo
  by_cases hk : k1 = k2
  · subst hk
    rw [if_neg (by omega), if_neg (by omega), if_pos rfl]
    exact body_cmp o1 o2 S1 S2
  · rw [if_neg hk]
    unfold zc
    by_cases hl : k1 < k2
    · rw [if_pos (by omega), if_pos hl]
    · rw [if_neg (by omega), if_pos (by omega), if_neg hl, if_pos (by omega)]
theorem NumX.shape {x : Int} {B : List UInt8} (h : NumX x B) : NumS B := by
  rcases h with ⟨_, e⟩ | ⟨V, r, _, _, _, _, e⟩
  · exact .inl e
  · exact .inr ⟨_, _, _, fun b hb => dd_range V b (trim_mem hb), e⟩
theorem BodyX.shape {k0 : Int} {y n : Bool} {l : List Int} {s day mo da : Int} {t : ByteArray} {B : List UInt8} (h : BodyX k0 y n l s day mo da t B) : BodyS k0 B :=
  ⟨h.s0, fun e => by rw [h.s1 e]; rfl, fun e => by obtain ⟨_, _, _, _, _, _, q⟩ := h.s2 e; exact q.shape, fun e => by rw [h.s3 e]; rfl, fun e => by rw [h.s4 e]; rfl, fun e => ⟨_, (h.s5 e).1, (h.s5 e).2⟩⟩
end Go.Proofs.YtiojgdjpigcgaaaGreatDoor.R
end

section
/-! Rf: a number's key is read back (the program's side). -/
set_option autoImplicit false
set_option linter.unusedSimpArgs false
set_option linter.unusedVariables false
namespace Go.Proofs.YtiojgdjpigcgaaaGreatDoor.R
open Go.Rf
/-- the figures ahead, so many at most -/
def lead : Nat → List UInt8 → List UInt8
  | 0, _ => []
  | _ + 1, [] => []
  | n + 1, x :: W => if 1 ≤ x.toNat ∧ x.toNat ≤ 10 then UInt8.ofNat (47 + x.toNat) :: lead n W else []
theorem lead_dig : ∀ (n : Nat) (W : List UInt8), Dig (lead n W)
  | 0, _ => fun b hb => by cases hb
  | _ + 1, [] => fun b hb => by cases hb
  | n + 1, x :: W => fun b hb => by
    unfold lead at hb
    split at hb
    · rename_i h
      rcases List.mem_cons.1 hb with rfl | hb
      · rw [UInt8.toNat_ofNat']; omega
      · exact lead_dig n W b hb
    · cases hb
theorem lead_len : ∀ (n : Nat) (W : List UInt8), (lead n W).length ≤ n
  | 0, _ => by simp [lead]
  | _ + 1, [] => by simp [lead]
  | n + 1, x :: W => by
    unfold lead
    split
    · have := lead_len n W
      rw [List.length_cons]; omega
    · simp
theorem lead_gb : ∀ (n : Nat) (T R : List UInt8), T.length ≤ n → Dig T → lead n (T.map gb ++ 0 :: R) = T
  | 0, [], R, _, _ => rfl
  | n + 1, [], R, _, _ => by
    show lead (n + 1) (0 :: R) = []
    rw [lead, if_neg (by decide)]
  | n + 1, x :: T, R, h, hd => by
    have hx := hd x List.mem_cons_self
    have hg := gb_nat hx
    show lead (n + 1) (gb x :: (T.map gb ++ 0 :: R)) = x :: T
    rw [lead, if_pos (by omega), lead_gb n T R (by simpa using h) fun b hb => hd b (List.mem_cons_of_mem _ hb)]
    congr 1
    rw [hg, show 47 + (x.toNat - 47) = x.toNat by omega]
    simp
  | 0, x :: T, R, h, _ => by simp at h
theorem within_iff' {n lo hi : Int} : within n lo hi = true ↔ lo ≤ n ∧ n ≤ hi := by
  unfold within
  simp only [Bool.and_eq_true, decide_eq_true_eq, ge_iff_le]
theorem enc_dig {y : Nat} (h1 : 1 ≤ y) (h2 : y ≤ 10) : Utf8.encode (IntKind.i32.wrap (IntKind.u8.wrap ((IntKind.u8.wrap ((48 : Int) + (y : Int))) - (1 : Int)))) = ba [UInt8.ofNat (47 + y)] := by
  have : y = 1 ∨ y = 2 ∨ y = 3 ∨ y = 4 ∨ y = 5 ∨ y = 6 ∨ y = 7 ∨ y = 8 ∨ y = 9 ∨ y = 10 := by omega
  rcases this with rfl | rfl | rfl | rfl | rfl | rfl | rfl | rfl | rfl | rfl <;> rfl
/-- figures, as many as stand ahead of the dot at least -/
def padD (e : Int) (D : List UInt8) : List UInt8 := D ++ List.replicate (e - (D.length : Int)).toNat 48
theorem padD_dig {e : Int} {D : List UInt8} (h : Dig D) : Dig (padD e D) := h.app fun b hb => by
  rw [List.eq_of_mem_replicate hb]; decide
theorem padD_len {e : Int} {D : List UInt8} (h : e ≤ 30) (hD : D.length ≤ 31) : (padD e D).length ≤ 61 := by
  unfold padD
  rw [List.length_append, List.length_replicate]; omega
def numFin (neg : Bool) (e : Int) (D : List UInt8) : Bool × Nat × Int :=
  if within e (-12) 30 = true ∧ D ≠ [] then
    (if (digs (dv (padD e D))).length > 16 then (false, 0, ((padD e D).length : Int) - e) else (neg && decide (dv (padD e D) ≠ 0), dv (padD e D), ((padD e D).length : Int) - e))
  else (false, 0, 0)
theorem rep48 (n : Nat) : Lib.repeatL [48] n = List.replicate n 48 := by
  induction n with
  | zero => rfl
  | succ n ih =>
    rw [List.replicate_succ]
    show [48] ++ Lib.repeatL [48] n = _
    rw [ih]
    rfl
theorem repeat_ev {z : Int} (h0 : 0 ≤ z) (h1 : z ≤ 1000) : Ev (fun k => F90 k (⟨#[48]⟩ : ByteArray) z) ((ba (List.replicate z.toNat 48), ()), ((), (), ())) := by
  obtain ⟨n, rfl⟩ := Int.eq_ofNat_of_zero_le h0
  refine Ev.step 1 (fun k => F90_eq k _ _) ?_
  have : repeatR ((⟨#[48]⟩ : ByteArray), (n : Int), ()) = some ((ba (List.replicate (n : Int).toNat 48), ()), ((), (), ())) := by
    unfold repeatR
    have c : (decide (0 ≤ (n : Int)) && Nat.ble (n : Int).toNat 9223372036854775807 && Nat.ble ((⟨#[48]⟩ : ByteArray).size * (n : Int).toNat) 140737488355328) = true := by
      rw [Bool.and_eq_true, Bool.and_eq_true]
      refine ⟨⟨decide_eq_true (by omega), Nat.ble_eq_true_of_le (by rw [Int.toNat_natCast]; omega)⟩, Nat.ble_eq_true_of_le ?_⟩
      show 1 * _ ≤ _
      rw [Int.toNat_natCast]; omega
    show (bif _ then _ else _) = _
    rw [c]
    show some ((ba (Lib.repeatL [48] _), ()), _) = _
    rw [rep48]
  rw [this]
  exact Ev.now _
theorem bigOver {neg : Bool} {n : Nat} (hl : (digs n).length ≤ 1000) : Ev (fun k => F91 k neg (digs n)) (((if (digs n).length > 16 then false else neg && decide (n ≠ 0), digs (if (digs n).length > 16 then 0 else n), ()), decide ((digs n).length ≤ 16), ()), ((), (), ())) := by
  by_cases h : (digs n).length > 16
  · obtain ⟨hr, ht, hv⟩ := digs_spec n
    have htr := trim_ev hr (show (digs n).length ≤ 1000000 by omega)
    have e : digs (VI (digs n)).toNat = digs n := by rw [hv]; rfl
    rw [e] at htr
    rw [if_pos h, if_pos h, digs_zero, decide_eq_false (show ¬ (digs n).length ≤ 16 by omega)]
    refine Ev.step 2 (fun k => F91_eq k _ _) (Ev.bind htr ?_)
    simp only [decide_eq_true (show ((digs n).length : Int) > 16 by omega), if_true]
    exact Ev.now _
  · rw [if_neg h, if_neg h, decide_eq_true (show (digs n).length ≤ 16 by omega)]
    exact big_ev (neg := neg) (n := n) (by omega)
section
variable {X : List Int} {b0 : UInt8}
theorem numOf_end (hX : X[0]? = some (b0.toNat : Int)) {e : Int} (he : -1000 ≤ e ∧ e ≤ 1000) {D : List UInt8} (hD : Dig D) (hl : D.length ≤ 31) {W : List Int} {n : Nat} {z : Int} (b : Bool) (l : List Int) (s : Int)
    (hend : (n : Int) ≤ z ∨ (∃ y : Nat, 0 ≤ z ∧ z < (n : Int) ∧ W[z.toNat]? = some (y : Int) ∧ y < 256 ∧ (¬ (1 ≤ y ∧ y ≤ 10) ∨ D.length > 30))) :
    Ev (fun k => F41c9 k X b l s e (ba D) W (n : Int) z) ((((numFin (decide (b0.toNat = 127)) e D).1, digs (numFin (decide (b0.toNat = 127)) e D).2.1, (numFin (decide (b0.toNat = 127)) e D).2.2, ()), ()), ((), ())) := by
  have main : Ev (fun k => (F40 k e (-12 : Int) (30 : Int)).bind fun r10 => if (!r10.1.1) = true then some (((false, ([] : List Int), (0 : Int), ()), ()), ((), ())) else if ((ba D).toList == (⟨#[]⟩ : ByteArray).toList) = true then some (((false, ([] : List Int), (0 : Int), ()), ()), ((), ())) else (F90 k (⟨#[48]⟩ : ByteArray) (if (IntKind.i64.wrap (e - ((ba D).size : Int))) > (0 : Int) then (IntKind.i64.wrap (e - ((ba D).size : Int))) else (0 : Int))).bind fun r11 => if (Nat.ble ((ba D).size + r11.1.1.size) 9223372036854775807) = true then (X[0]?).bind fun y12 => (F92 k (ba D ++ r11.1.1)).bind fun r13 => (F91 k (y12 == (127 : Int)) r13.1.1).bind fun r14 => some (((r14.1.1.1, r14.1.1.2.1, (IntKind.i64.wrap (((ba D ++ r11.1.1).size : Int) - e)), ()), ()), ((), ())) else none)
      ((((numFin (decide (b0.toNat = 127)) e D).1, digs (numFin (decide (b0.toNat = 127)) e D).2.1, (numFin (decide (b0.toNat = 127)) e D).2.2, ()), ()), ((), ())) := by
    refine Ev.bind (in_ev _ _ _) ?_
    unfold numFin
    cases hw : within e (-12) 30 with
    | false =>
      simp only [Bool.not_false, if_true, Bool.false_eq_true, false_and, if_false, digs_zero]
      exact Ev.now _
    | true =>
      simp only [Bool.not_true, Bool.false_eq_true, if_false, true_and]
      by_cases hn : D = []
      · subst hn
        have : ((ba []).toList == (⟨#[]⟩ : ByteArray).toList) = true := by rw [Lib.toList_data, Lib.toList_data]; rfl
        simp only [this, if_true, ne_eq, not_true_eq_false, if_false, digs_zero]
        exact Ev.now _
      · have : ((ba D).toList == (⟨#[]⟩ : ByteArray).toList) = false := by
          rw [Lib.toList_data, Lib.toList_data, beq_eq_false_iff_ne]
          exact hn
        simp only [this, Bool.false_eq_true, if_false, ne_eq, hn, not_false_eq_true, if_true]
        have w2 : -12 ≤ e ∧ e ≤ 30 := within_iff'.1 hw
        have ew : IntKind.i64.wrap (e - ((ba D).size : Int)) = e - (D.length : Int) := by rw [ba_size, wrap64 (by omega) (by omega)]
        have em : ((if e - (D.length : Int) > 0 then e - (D.length : Int) else 0)).toNat = (e - (D.length : Int)).toNat := by split <;> omega
        have e0 : 0 ≤ (if e - (D.length : Int) > 0 then e - (D.length : Int) else 0) := by split <;> omega
        have e1 : (if e - (D.length : Int) > 0 then e - (D.length : Int) else 0) ≤ 1000 := by split <;> omega
        have hr := repeat_ev e0 e1
        rw [em] at hr
        rw [ew]
        refine Ev.bind hr ?_
        have c1 : Nat.ble ((ba D).size + (ba (List.replicate (e - (D.length : Int)).toNat 48)).size) 9223372036854775807 = true := Nat.ble_eq_true_of_le (by rw [ba_size, ba_size, List.length_replicate]; omega)
        simp only [c1, if_true, hX, Option.bind_some, ba_app]
        rw [show D ++ List.replicate (e - (D.length : Int)).toNat 48 = padD e D from rfl]
        have hp : Dig (padD e D) := padD_dig hD
        have hpl := padD_len (D := D) w2.2 hl
        have hd := dv_lt hp
        have hdl : (digs (dv (padD e D))).length ≤ 61 := digs_len_le (Nat.lt_of_lt_of_le hd (Nat.le_trans (Nat.pow_le_pow_right (by omega) hpl) (Nat.pow_le_pow_left (by omega) 61)))
        have c2 : ((b0.toNat : Int) == (127 : Int)) = decide (b0.toNat = 127) := by
          by_cases h : b0.toNat = 127
          · rw [h]; rfl
          · rw [decide_eq_false h, beq_eq_false_iff_ne]; omega
        have c3 : IntKind.i64.wrap (((ba (padD e D)).size : Int) - e) = ((padD e D).length : Int) - e := by
          rw [ba_size, wrap64 (by omega) (by omega)]
        rw [c2, c3]
        refine Ev.bind (read_ev hp (by omega)) (Ev.bind (bigOver (by omega)) ?_)
        by_cases h16 : (digs (dv (padD e D))).length > 16
        · simp only [if_pos h16]
          exact Ev.now _
        · simp only [if_neg h16]
          exact Ev.now _
  refine Ev.step 1 (fun k => F41c9_eq k _ _ _ _ _ _ _ _ _) ?_
  rcases hend with hz | ⟨y, h0, hz, hy, hy2, hc⟩
  · simp only [decide_eq_false (show ¬ z < (n : Int) by omega), Bool.false_eq_true, if_false]
    exact main
  · simp only [decide_eq_true hz, decide_eq_true h0, if_true, hy, Option.bind_some, wrap64 (show -9223372036854775808 ≤ (y : Int) by omega) (by omega)]
    refine Ev.bind (in_ev _ _ _) ?_
    by_cases hin : 1 ≤ y ∧ y ≤ 10
    · have : within (y : Int) 1 10 = true := within_iff'.2 (by omega)
      simp only [this, Bool.not_true, Bool.false_eq_true, if_false]
      have hc : D.length > 30 := hc.resolve_left (fun h => h hin)
      have : decide (((ba D).size : Int) > 30) = true := decide_eq_true (by rw [ba_size]; omega)
      simp only [this, if_true]
      exact main
    · have : within (y : Int) 1 10 = false := by
        cases h : within (y : Int) 1 10 with
        | false => rfl
        | true => have := within_iff'.1 h; omega
      simp only [this, Bool.not_false, if_true]
      exact main
end
end Go.Proofs.YtiojgdjpigcgaaaGreatDoor.R
end

section
/-! Rf: a number's key is read back (the program's side, whole). -/
set_option autoImplicit false
set_option linter.unusedSimpArgs false
set_option linter.unusedVariables false
namespace Go.Proofs.YtiojgdjpigcgaaaGreatDoor.R
open Go.Rf
theorem numOf_loop {X : List Int} {b0 : UInt8} (hX : X[0]? = some (b0.toNat : Int)) {e : Int} (he : -1000 ≤ e ∧ e ≤ 1000) (b : Bool) (l : List Int) (s : Int) {W : List UInt8} (hW : W.length ≤ 100) : ∀ (m j : Nat) (D : List UInt8), j + m = W.length → Dig D → D.length ≤ 31 →
    Ev (fun k => F41c9 k X b l s e (ba D) (ints W) (W.length : Int) (j : Int)) ((((numFin (decide (b0.toNat = 127)) e (D ++ lead (31 - D.length) (W.drop j))).1, digs (numFin (decide (b0.toNat = 127)) e (D ++ lead (31 - D.length) (W.drop j))).2.1, (numFin (decide (b0.toNat = 127)) e (D ++ lead (31 - D.length) (W.drop j))).2.2, ()), ()), ((), ())) := by
  intro m
  induction m with
  | zero =>
    intro j D hj hD hl
    rw [List.drop_eq_nil_of_le (by omega), show lead (31 - D.length) [] = [] by cases 31 - D.length <;> rfl, List.append_nil]
    exact numOf_end hX he hD hl b l s (.inl (by omega))
  | succ m ih =>
    intro j D hj hD hl
    have hlt : j < W.length := by omega
    have hdrop : W.drop j = W[j] :: W.drop (j + 1) := List.drop_eq_getElem_cons hlt
    have hg : (ints W)[j]? = some (W[j].toNat : Int) := by rw [ints_get, List.getElem?_eq_getElem hlt]; rfl
    have hb : W[j].toNat < 256 := UInt8.toNat_lt _
    by_cases h30 : D.length > 30
    · have e0 : 31 - D.length = 0 := by omega
      rw [e0, lead, List.append_nil]
      exact numOf_end hX he hD hl b l s (.inr ⟨W[j].toNat, by omega, by omega, by rw [Int.toNat_natCast]; exact hg, hb, .inr h30⟩)
    by_cases hin : 1 ≤ W[j].toNat ∧ W[j].toNat ≤ 10
    · have hd1 : Dig [UInt8.ofNat (47 + W[j].toNat)] := fun c hc => by
        rw [List.mem_singleton] at hc
        rw [hc, UInt8.toNat_ofNat']; omega
      have g := ih (j + 1) (D ++ [UInt8.ofNat (47 + W[j].toNat)]) (by omega) (hD.app hd1) (by rw [List.length_append]; simp; omega)
      have e1 : D ++ lead (31 - D.length) (W.drop j) = (D ++ [UInt8.ofNat (47 + W[j].toNat)]) ++ lead (31 - (D ++ [UInt8.ofNat (47 + W[j].toNat)]).length) (W.drop (j + 1)) := by
        rw [hdrop, List.length_append, List.length_singleton, show 31 - D.length = (31 - (D.length + 1)) + 1 by omega, lead, if_pos hin, List.append_assoc, List.singleton_append]
      rw [e1]
      refine Ev.step 1 (fun k => F41c9_eq k _ _ _ _ _ _ _ _ _) ?_
      have hw : within (W[j].toNat : Int) 1 10 = true := within_iff'.2 (by omega)
      simp only [lt_true hlt, ge0, if_true, Int.toNat_natCast, hg, Option.bind_some, wrap64 (show -9223372036854775808 ≤ (W[j].toNat : Int) by omega) (by omega)]
      refine Ev.bind (in_ev _ _ _) ?_
      have c1 : decide (((ba D).size : Int) > 30) = false := decide_eq_false (by rw [ba_size]; omega)
      have c2 : Nat.ble ((ba D).size + (ba [UInt8.ofNat (47 + W[j].toNat)]).size) 9223372036854775807 = true := Nat.ble_eq_true_of_le (by rw [ba_size, ba_size, List.length_singleton]; omega)
      simp only [hw, Bool.not_true, Bool.false_eq_true, if_false, c1, enc_dig hin.1 hin.2, c2, if_true, ba_app, wrap_succ (show j < 9223372036854775807 by omega)]
      exact g
    · have e1 : lead (31 - D.length) (W.drop j) = [] := by
        rw [hdrop, show 31 - D.length = (31 - (D.length + 1)) + 1 by omega, lead, if_neg hin]
      rw [e1, List.append_nil]
      exact numOf_end hX he hD hl b l s (.inr ⟨W[j].toNat, by omega, by omega, by rw [Int.toNat_natCast]; exact hg, hb, .inl hin⟩)
/-- what is read of a number's key -/
def numI : List UInt8 → Bool × Nat × Int
  | b0 :: h :: W => if b0.toNat = 127 then numFin true (((turn h).toNat : Int) - 64) (lead 31 (flip W)) else if b0.toNat = 129 then numFin false ((h.toNat : Int) - 64) (lead 31 W) else (false, 0, 0)
  | _ => (false, 0, 0)
theorem slices1 (K : List UInt8) : slices (ints K) 1 (ints K).length = ints (K.drop 1) := by
  unfold slices
  rw [List.take_length]
  unfold ints
  rw [List.map_drop]
theorem numOf_ev {rest : List UInt8} (hl : rest.length ≤ 100) : Ev (fun k => F41 k (ints rest)) ((((numI rest).1, digs (numI rest).2.1, (numI rest).2.2, ()), ()), ((), ())) := by
  have zero : Ev (fun _ : Nat => some (((false, ([] : List Int), (0 : Int), ()), ()), ((), ()))) (((((false, 0, 0) : Bool × Nat × Int).1, digs ((false, 0, 0) : Bool × Nat × Int).2.1, ((false, 0, 0) : Bool × Nat × Int).2.2, ()), ()), ((), ())) := by
    rw [digs_zero]
    exact Ev.now _
  refine Ev.step 2 (fun k => F41_eq k _) ?_
  match rest, hl with
  | [], _ => exact zero
  | [b0], _ => exact zero
  | b0 :: h :: W, hl =>
    have hlW : W.length ≤ 98 := by simp at hl; omega
    have hX : (ints (b0 :: h :: W))[0]? = some (b0.toNat : Int) := rfl
    have c0 : decide (((ints (b0 :: h :: W)).length : Int) < 2) = false := decide_eq_false (by rw [ints_len]; simp; omega)
    have c1 : (decide (0 ≤ (1 : Int)) && decide ((1 : Int) ≤ ((ints (b0 :: h :: W)).length : Int))) = true := by rw [ints_len]; simp; omega
    -- the body
    have body : ∀ (g : UInt8) (Z : List UInt8), Z.length ≤ 98 → Ev (fun k => F41c6 k (ints (b0 :: h :: W)) false ([] : List Int) 0 (ints (g :: Z))) ((((numFin (decide (b0.toNat = 127)) ((g.toNat : Int) - 64) (lead 31 Z)).1, digs (numFin (decide (b0.toNat = 127)) ((g.toNat : Int) - 64) (lead 31 Z)).2.1, (numFin (decide (b0.toNat = 127)) ((g.toNat : Int) - 64) (lead 31 Z)).2.2, ()), ()), ((), ())) := by
      intro g Z hZ
      have hg := UInt8.toNat_lt g
      refine Ev.step 1 (fun k => F41c6_eq k _ _ _ _ _) ?_
      have d1 : (decide (0 ≤ (1 : Int)) && decide ((1 : Int) ≤ ((ints (g :: Z)).length : Int))) = true := by rw [ints_len]; simp; omega
      have d2 : (ints (g :: Z))[0]? = some (g.toNat : Int) := rfl
      simp only [d2, Option.bind_some, d1, if_true, wrap64 (show -9223372036854775808 ≤ (g.toNat : Int) by omega) (by omega), wrap64 (show -9223372036854775808 ≤ (g.toNat : Int) - 64 by omega) (by omega), slices1, List.drop_succ_cons, List.drop_zero]
      rw [ints_len]
      have := numOf_loop hX (e := (g.toNat : Int) - 64) (by omega) false [] 0 (W := Z) (by omega) Z.length 0 [] (by omega) (fun b hb => by cases hb) (by simp)
      rw [List.drop_zero] at this
      exact this
    have hb := UInt8.toNat_lt b0
    unfold numI
    simp only [c0, Bool.false_eq_true, if_false, hX, Option.bind_some, c1, if_true, slices1, List.drop_succ_cons, List.drop_zero]
    by_cases h127 : b0.toNat = 127
    · have e1 : ((b0.toNat : Int) != 127) = false := by rw [h127]; rfl
      have e2 : ((b0.toNat : Int) == 127) = true := by rw [h127]; rfl
      simp only [e1, e2, Bool.false_eq_true, if_false, if_true, h127]
      refine Ev.bind (turned_ev (h :: W) (by simp; omega)) ?_
      have := body (turn h) (flip W) (by rw [flip_len]; omega)
      rw [decide_eq_true h127] at this
      exact this
    · have e1 : ((b0.toNat : Int) != 127) = true := by rw [bne_iff_ne]; omega
      have e2 : ((b0.toNat : Int) == 127) = false := by rw [beq_eq_false_iff_ne]; omega
      simp only [e1, e2, Bool.false_eq_true, if_false, if_true, h127]
      by_cases h129 : b0.toNat = 129
      · have e3 : ((b0.toNat : Int) != 129) = false := by rw [h129]; rfl
        simp only [e3, Bool.false_eq_true, if_false, h129, if_true]
        have := body h W hlW
        rw [decide_eq_false h127] at this
        exact this
      · have e3 : ((b0.toNat : Int) != 129) = true := by rw [bne_iff_ne]; omega
        simp only [e3, if_true, h129, if_false]
        exact zero
/-! ### what has a key is read back -/
theorem trim_split : ∀ T : List UInt8, ∃ j, T = Lib.trimRightB T 48 ++ List.replicate j 48
  | [] => ⟨0, rfl⟩
  | x :: P => by
    obtain ⟨j, hj⟩ := trim_split P
    rw [trimB_cons]
    by_cases h : Lib.trimRightB P 48 = []
    · rw [h, List.nil_append] at hj
      rw [if_pos h]
      by_cases hx : x = 48
      · rw [if_pos hx]
        exact ⟨j + 1, by rw [List.replicate_succ, List.nil_append, hx]; congr 1⟩
      · rw [if_neg hx]
        exact ⟨j, by rw [List.singleton_append]; congr 1⟩
    · rw [if_neg h]
      exact ⟨j, by rw [List.cons_append]; congr 1⟩
theorem trim_last : ∀ T : List UInt8, Lib.trimRightB T 48 = [] ∨ ∃ P b, Lib.trimRightB T 48 = P ++ [b] ∧ b ≠ 48
  | [] => .inl rfl
  | x :: P => by
    rw [trimB_cons]
    rcases trim_last P with h | ⟨Q, b, h, hb⟩
    · rw [if_pos h]
      by_cases hx : x = 48
      · rw [if_pos hx]; exact .inl rfl
      · rw [if_neg hx]; exact .inr ⟨[], x, rfl, hx⟩
    · rw [h, if_neg (by simp)]
      exact .inr ⟨x :: Q, b, rfl, hb⟩
theorem dv_zeros : ∀ j, dv (List.replicate j 48) = 0
  | 0 => rfl
  | j + 1 => by
    rw [List.replicate_succ, show (48 : UInt8) :: List.replicate j 48 = [48] ++ List.replicate j 48 from rfl, dv_app, dv_zeros j, dv_one, show (48 : UInt8).toNat - 48 = 0 from rfl, Nat.zero_mul]
theorem trim_dd {V : Nat} (hV : 0 < V) : ∃ (T : List UInt8) (j : Nat), Lib.trimRightB (Lib.decDigits V) 48 = T ∧ T ≠ [] ∧ Dig T ∧ V = dv T * 10 ^ j ∧ dv T % 10 ≠ 0 ∧ (Lib.decDigits V).length = T.length + j ∧ Lib.decDigits V = T ++ List.replicate j 48 := by
  obtain ⟨j, hj⟩ := trim_split (Lib.decDigits V)
  have hv := dv_dd V
  have hd : Dig (Lib.trimRightB (Lib.decDigits V) 48) := fun b hb => dd_range V b (trim_mem hb)
  generalize hT : Lib.trimRightB (Lib.decDigits V) 48 = T at hj hd
  rw [hj, dv_app, dv_zeros, List.length_replicate, Nat.add_zero] at hv
  have hne : T ≠ [] := by
    rintro rfl
    rw [dv_nil, Nat.zero_mul] at hv
    omega
  refine ⟨T, j, rfl, hne, hd, hv.symm, ?_, by rw [hj, List.length_append, List.length_replicate], hj⟩
  rcases trim_last (Lib.decDigits V) with h | ⟨P, b, h, hb⟩
  · rw [hT] at h; exact absurd h hne
  · rw [hT] at h
    have hbd := hd b (by rw [h]; simp)
    rw [h, dv_app, dv_one, List.length_singleton, Nat.pow_one]
    have : b.toNat ≠ 48 := fun e => hb (UInt8.toNat_inj.1 e)
    omega
theorem ten_dvd {a b q : Nat} (h : a = b * 10 ^ q) (hq : 0 < q) : a % 10 = 0 := by
  obtain ⟨p, rfl⟩ : ∃ p, q = p + 1 := ⟨q - 1, by omega⟩
  rw [Nat.pow_succ, ← Nat.mul_assoc] at h
  omega
theorem pow_cancel {a b c : Nat} (h : a * 10 ^ c = b * 10 ^ c) : a = b := Nat.eq_of_mul_eq_mul_right (Nat.pow_pos (by omega)) h
/-- figures and where the dot stands say one number, at its least scale -/
theorem num_back {A w t j r : Nat} (ht : t ≤ 12) (hr : r ≤ 12) (hw : w % 10 ≠ 0) (hA : t = 0 ∨ A % 10 ≠ 0) (h : A * 10 ^ (12 - t) = w * 10 ^ j * 10 ^ (12 - r)) : A = w * 10 ^ (j - r) ∧ t = r - j := by
  rw [Nat.mul_assoc, ← Nat.pow_add] at h
  by_cases hj : r ≤ j
  · have e : j + (12 - r) = (j - r + t) + (12 - t) := by omega
    rw [e, Nat.pow_add, ← Nat.mul_assoc] at h
    have h2 := pow_cancel h
    by_cases t0 : t = 0
    · subst t0
      exact ⟨by simpa using h2, by omega⟩
    · have := ten_dvd h2 (by omega)
      exact absurd this (hA.resolve_left t0)
  · by_cases hq : t ≤ r - j
    · have e : 12 - t = (r - j - t) + (j + (12 - r)) := by omega
      rw [e, Nat.pow_add, ← Nat.mul_assoc] at h
      have h2 := pow_cancel h
      by_cases hz : r - j - t = 0
      · rw [hz, Nat.pow_zero, Nat.mul_one] at h2
        exact ⟨by rw [show j - r = 0 by omega, Nat.pow_zero, Nat.mul_one]; exact h2, by omega⟩
      · exact absurd (ten_dvd h2.symm (by omega)) hw
    · have e : j + (12 - r) = (t - (r - j)) + (12 - t) := by omega
      rw [e, Nat.pow_add, ← Nat.mul_assoc] at h
      have h2 := pow_cancel h
      have := ten_dvd h2 (by omega)
      exact absurd this (hA.resolve_left (by omega))
theorem numFin_of {neg : Bool} {T : List UInt8} {j r : Nat} (hT : T ≠ []) (hd : Dig T) (hj : T.length + j ≤ 30) (hr : r ≤ 12) (hw : dv T % 10 ≠ 0) :
    numFin neg ((T.length : Int) + j - r) T = (neg, dv T * 10 ^ (j - r), ((r - j : Nat) : Int)) := by
  have hl : 0 < T.length := List.length_pos_iff.2 hT
  have hwi : within ((T.length : Int) + j - r) (-12) 30 = true := within_iff'.2 (by omega)
  have hn : (((T.length : Int) + j - r) - (T.length : Int)).toNat = j - r := by omega
  have hdv : dv (padD ((T.length : Int) + j - r) T) = dv T * 10 ^ (j - r) := by
    unfold padD
    rw [hn, dv_app, dv_zeros, List.length_replicate, Nat.add_zero]
  have hlen : ((padD ((T.length : Int) + j - r) T).length : Int) - ((T.length : Int) + j - r) = ((r - j : Nat) : Int) := by
    unfold padD
    rw [hn, List.length_append, List.length_replicate]
    omega
  have h30 : dv (padD ((T.length : Int) + j - r) T) < 10000 ^ 16 := by
    have h1 := dv_lt (padD_dig (e := (T.length : Int) + j - r) hd)
    have h2 : (padD ((T.length : Int) + j - r) T).length ≤ 30 := by
      unfold padD
      rw [hn, List.length_append, List.length_replicate]
      omega
    have h3 : 10 ^ (padD ((T.length : Int) + j - r) T).length ≤ 10 ^ 30 := Nat.pow_le_pow_right (by omega) h2
    have h4 : (10 : Nat) ^ 30 ≤ 10000 ^ 16 := by decide
    omega
  have h16 := digs_len_le h30
  unfold numFin
  rw [if_pos ⟨hwi, hT⟩, if_neg (by omega), hlen, hdv]
  have hpos : dv T * 10 ^ (j - r) ≠ 0 := Nat.ne_of_gt (Nat.mul_pos (by omega) (Nat.pow_pos (by omega)))
  rw [decide_eq_true hpos, Bool.and_true]
theorem hdr_nat {n r : Nat} (hn : n ≤ 30) (hr : r ≤ 12) : ((u8 (64 + (n : Int) - (r : Int))).toNat : Int) - 64 = (n : Int) - r := by
  rw [u8_nat, Int.emod_eq_of_lt (by omega) (by omega)]
  omega
theorem flip_app (K L : List UInt8) : flip (K ++ L) = flip K ++ flip L := by unfold flip; rw [List.map_append]
theorem numI_of {z : Int} {t : Nat} {B R : List UInt8} (ht : t ≤ 12) (hc : t = 0 ∨ z % 10 ≠ 0) (h : NumX (z * 10 ^ (12 - t)) B) : numI (B ++ R) = (decide (z < 0), z.natAbs, (t : Int)) := by
  have hpow : (0 : Int) < 10 ^ (12 - t) := Int.pow_pos (by omega)
  rcases h with ⟨h0, rfl⟩ | ⟨V, r, hV, hl, hr, hA, rfl⟩
  · have hz : z = 0 := by
      rcases Int.mul_eq_zero.1 h0 with h | h
      · exact h
      · omega
    subst hz
    have t0 : t = 0 := hc.resolve_right (by decide)
    subst t0
    cases R with
    | nil => rfl
    | cons a R => rfl
  · obtain ⟨T, j, eT, hne, hd, hw, hm, hlen, _⟩ := trim_dd hV
    rw [eT, hlen]
    have hA' : z.natAbs * 10 ^ (12 - t) = dv T * 10 ^ j * 10 ^ (12 - r) := by
      rw [← hw, ← hA, Int.natAbs_mul, Int.natAbs_pow]
      rfl
    obtain ⟨e1, e2⟩ := num_back ht hr hm (hc.imp_right fun h h' => h (by omega)) hA'
    have hsg : decide (z * 10 ^ (12 - t) < 0) = decide (z < 0) := by
      rw [decide_eq_decide]
      constructor
      · intro h
        refine Decidable.by_contra fun hn => ?_
        have := Int.mul_nonneg (show 0 ≤ z by omega) (Int.le_of_lt hpow)
        omega
      · intro h
        exact Int.mul_neg_of_neg_of_pos h hpow
    have hfin := numFin_of (neg := decide (z < 0)) (j := j) hne hd (by omega) hr hm
    rw [← e1, ← e2] at hfin
    have hh := hdr_nat (n := T.length + j) (r := r) (by omega) hr
    have hh' : (((T.length + j : Nat) : Int)) - r = (T.length : Int) + j - r := by omega
    rw [hh'] at hh
    rw [hsg]
    cases hn : decide (z < 0) with
    | false =>
      rw [hn] at hfin
      rw [nk_pos]
      show numFin false _ (lead 31 (dig T ++ R)) = _
      have : lead 31 (dig T ++ R) = T := by
        unfold dig
        rw [List.append_assoc]
        exact lead_gb 31 T R (by omega) hd
      rw [this, hh]
      exact hfin
    | true =>
      rw [hn] at hfin
      rw [nk_neg]
      show numFin true (((turn (turn (u8 (64 + ((T.length + j : Nat) : Int) - r)))).toNat : Int) - 64) (lead 31 (flip (flip (dig T) ++ R))) = _
      have : lead 31 (flip (flip (dig T) ++ R)) = T := by
        rw [flip_app, flip_flip]
        unfold dig
        rw [List.append_assoc]
        exact lead_gb 31 T (flip R) (by omega) hd
      rw [this, turn_turn, hh]
      exact hfin
end Go.Proofs.YtiojgdjpigcgaaaGreatDoor.R
end

section
/-! Rf: rows of values. -/
set_option autoImplicit false
set_option linter.unusedSimpArgs false
set_option linter.unusedVariables false
namespace Go.Proofs.YtiojgdjpigcgaaaGreatDoor.R
open Go.Rf
abbrev Vl := Int × Bool × Bool × (List Int) × Int × Int × Int × Int × ByteArray × Unit
abbrev Ty := Int × Int × Int × Unit
def vE (v : Vl) : Bool := vOk v.1 v.2.1 v.2.2.1 v.2.2.2.1 v.2.2.2.2.1 v.2.2.2.2.2.1 v.2.2.2.2.2.2.1 v.2.2.2.2.2.2.2.1 v.2.2.2.2.2.2.2.2.1
def tE (t : Ty) : Bool := tOk t.1 t.2.1 t.2.2.1
def fE (v : Vl) (t : Ty) : Bool := fits v.1 v.2.2.2.1 v.2.2.2.2.1 t.1 t.2.1 t.2.2.1
def wE (v : Vl) (t : Ty) : Bool := vFits v.1 v.2.1 v.2.2.1 v.2.2.2.1 v.2.2.2.2.1 v.2.2.2.2.2.1 v.2.2.2.2.2.2.1 v.2.2.2.2.2.2.2.1 v.2.2.2.2.2.2.2.2.1 t.1 t.2.1 t.2.2.1
theorem wE_eq (v : Vl) (t : Ty) : wE v t = (vE v && (tE t && fE v t)) := rfl
def szOk (v : Vl) : Prop := v.2.2.2.1.length ≤ 1048576 ∧ v.2.2.2.2.2.2.2.2.1.size ≤ 1048576
def v0 : Vl := (0, false, false, [], 0, 0, 0, 0, ByteArray.empty, ())
def t0 : Ty := (0, 0, 0, ())
theorem atD {α : Type} {l : List α} {d : α} {i : Nat} (h : i < l.length) : l[i]? = some (l.getD i d) := by
  rw [List.getD_eq_getElem?_getD, List.getElem?_eq_getElem h]; rfl
theorem szD {vs : List Vl} (h : ∀ v ∈ vs, szOk v) {i : Nat} (hi : i < vs.length) : szOk (vs.getD i v0) := h _ (List.mem_of_getElem? (atD hi))
end Go.Proofs.YtiojgdjpigcgaaaGreatDoor.R
end

section
/-! Rf: a key is read back (the program's side). -/
set_option autoImplicit false
set_option linter.unusedSimpArgs false
set_option linter.unusedVariables false
namespace Go.Proofs.YtiojgdjpigcgaaaGreatDoor.R
open Go.Rf
def n3 (x y z : UInt8) : Nat := x.toNat * 65536 + y.toNat * 256 + z.toNat
theorem n3_lt (x y z : UInt8) : n3 x y z < 16777216 := by
  have := UInt8.toNat_lt x
  have := UInt8.toNat_lt y
  have := UInt8.toNat_lt z
  unfold n3
  omega
theorem or_add (a b i : Nat) (h : b < 2 ^ i) : a * 2 ^ i ||| b = a * 2 ^ i + b := by
  rw [← Nat.shiftLeft_eq, Nat.shiftLeft_add_eq_or_of_lt h]
theorem or_int {a b : Nat} (ha : a < 16777216) (hb : b < 16777216) : (BitVec.ofInt IntKind.i64.bits (a : Int) ||| BitVec.ofInt IntKind.i64.bits (b : Int)).toNat = a ||| b := by
  show (BitVec.ofInt 64 (a : Int) ||| BitVec.ofInt 64 (b : Int)).toNat = _
  rw [BitVec.toNat_or, BitVec.ofInt_natCast, BitVec.ofInt_natCast, BitVec.toNat_ofNat, BitVec.toNat_ofNat, Nat.mod_eq_of_lt (by omega), Nat.mod_eq_of_lt (by omega)]
theorem fromThree_ev (x y z : UInt8) (R : List UInt8) : Ev (fun k => F42 k (ints (x :: y :: z :: R))) ((((n3 x y z : Nat) : Int), ()), ((), ())) := by
  have hx := UInt8.toNat_lt x
  have hy := UInt8.toNat_lt y
  have hz := UInt8.toNat_lt z
  refine Ev.step 2 (fun k => F42_eq k _) ?_
  have g0 : (ints (x :: y :: z :: R))[0]? = some (x.toNat : Int) := rfl
  have g1 : (ints (x :: y :: z :: R))[1]? = some (y.toNat : Int) := rfl
  have g2 : (ints (x :: y :: z :: R))[2]? = some (z.toNat : Int) := rfl
  have w : ∀ n : Nat, n < 16777216 → IntKind.i64.wrap (n : Int) = (n : Int) := fun n h => wrap64 (by omega) (by omega)
  have s1 : IntKind.i64.wrap ((x.toNat : Int) * 2 ^ min (16 : Int).toNat IntKind.i64.bits) = ((x.toNat * 2 ^ 16 : Nat) : Int) := by
    rw [show ((2 : Int) ^ min (16 : Int).toNat IntKind.i64.bits) = 65536 from rfl, wrap64 (by omega) (by omega)]
    omega
  have s2 : IntKind.i64.wrap ((y.toNat : Int) * 2 ^ min (8 : Int).toNat IntKind.i64.bits) = ((y.toNat * 256 : Nat) : Int) := by
    rw [show ((2 : Int) ^ min (8 : Int).toNat IntKind.i64.bits) = 256 from rfl, wrap64 (by omega) (by omega)]
    omega
  have o1 : x.toNat * 2 ^ 16 ||| y.toNat * 256 = (x.toNat * 256 + y.toNat) * 2 ^ 8 := by
    rw [or_add _ _ _ (by omega)]
    omega
  have o2 : (x.toNat * 256 + y.toNat) * 2 ^ 8 ||| z.toNat = n3 x y z := by
    rw [or_add _ _ _ (by omega)]
    unfold n3
    omega
  simp only [g0, g1, g2, Option.bind_some, w x.toNat (by omega), w y.toNat (by omega), w z.toNat (by omega), s1, s2]
  rw [or_int (by omega) (by omega), o1, w ((x.toNat * 256 + y.toNat) * 2 ^ 8) (by omega), or_int (by omega) (by omega), o2, w _ (n3_lt x y z)]
  exact Ev.now _
theorem k3_back {d : Int} (h0 : 0 ≤ d) (h1 : d < 16777216) : ∃ x y z, k3 d = [x, y, z] ∧ ((n3 x y z : Nat) : Int) = d := by
  refine ⟨_, _, _, rfl, ?_⟩
  have a := u8_nat (d / 65536)
  have b := u8_nat (d / 256)
  have c := u8_nat d
  unfold n3
  omega
/-! ### a text up to its end -/
def upto0 : List UInt8 → List UInt8
  | [] => []
  | b :: L => if b = 0 then [] else b :: upto0 L
theorem upto0_app : ∀ (T R : List UInt8), (∀ b ∈ T, b ≠ 0) → upto0 (T ++ 0 :: R) = T
  | [], R, _ => rfl
  | b :: T, R, h => by
    rw [List.cons_append, upto0, if_neg (h b List.mem_cons_self), upto0_app T R fun c hc => h c (List.mem_cons_of_mem _ hc)]
theorem upto0_len : ∀ L : List UInt8, (upto0 L).length ≤ L.length
  | [] => Nat.le_refl _
  | b :: L => by
    unfold upto0
    split
    · simp
    · have := upto0_len L; simp; omega
theorem index0 : ∀ L : List UInt8, (Lib.index L [0] = -1 ∧ upto0 L = L) ∨ ∃ i : Nat, Lib.index L [0] = (i : Int) ∧ upto0 L = L.take i
  | [] => .inl ⟨rfl, rfl⟩
  | b :: L => by
    unfold upto0
    rw [Lib.index]
    by_cases hb : b = 0
    · subst hb
      exact .inr ⟨0, rfl, rfl⟩
    · have e : ([0] : List UInt8).isPrefixOf (b :: L) = false := by
        show ((0 : UInt8) == b && _) = false
        rw [beq_eq_false_iff_ne.2 (fun h => hb h.symm), Bool.false_and]
      rw [if_neg hb, e]
      simp only [Bool.false_eq_true, if_false]
      rcases index0 L with ⟨h1, h2⟩ | ⟨i, h1, h2⟩
      · rw [h1, h2]
        exact .inl ⟨rfl, rfl⟩
      · rw [h1, h2, if_neg (by rw [beq_iff_eq]; omega)]
        exact .inr ⟨i + 1, by omega, by rw [List.take_succ_cons]⟩
theorem cut0 (L : List UInt8) : (Lib.cut L [0]).1 = upto0 L := by
  unfold Lib.cut
  rcases index0 L with ⟨h1, h2⟩ | ⟨i, h1, h2⟩
  · rw [h1, h2]; rfl
  · rw [h1, h2, if_pos (by omega)]; rfl
theorem cut_ev {L : List UInt8} (hl : L.length ≤ 1000) : ∃ (b : ByteArray) (t : Bool), Ev (fun k => F43 k (ba L) (⟨#[0]⟩ : ByteArray)) ((ba (upto0 L), b, t, ()), ((), (), ())) := by
  refine ⟨⟨(Lib.cut L [0]).2.1.toArray⟩, (Lib.cut L [0]).2.2, Ev.step 1 (fun k => F43_eq k _ _) ?_⟩
  unfold cutR
  dsimp only
  rw [Nat.ble_eq_true_of_le (show (ba L).size + 1 ≤ 4294967281 by rw [ba_size]; omega), ← cut0]
  exact Ev.now _
/-- what a key is taken to say -/
def cand (h : UInt8) (rest : List UInt8) : Vl :=
  if h = 2 then (1, (match rest with | y :: _ => decide (y = 1) | [] => false), false, [], 0, 0, 0, 0, ByteArray.empty, ())
  else if h = 3 then (2, false, (numI rest).1, digs (numI rest).2.1, (numI rest).2.2, 0, 0, 0, ByteArray.empty, ())
  else if h = 4 then (3, false, false, [], 0, (match rest with | x :: y :: z :: _ => (n3 x y z : Int) | _ => 0), 0, 0, ByteArray.empty, ())
  else if h = 5 then (4, false, false, [], 0, 0, (match rest with | x :: y :: z :: _ :: _ :: _ :: _ => (n3 x y z : Int) - 120000 | _ => 0), (match rest with | _ :: _ :: _ :: x :: y :: z :: _ => (n3 x y z : Int) - 4000000 | _ => 0), ByteArray.empty, ())
  else if h = 6 then (5, false, false, [], 0, 0, 0, 0, ba (upto0 rest), ())
  else v0
section
variable {s : ByteArray} {down : Bool} {rest : List UInt8} (hl : rest.length ≤ 63)
include hl
theorem decG_ev {h : UInt8} (h1 : 1 ≤ h.toNat) (h6 : h.toNat ≤ 6) {r} (hr : Ev (fun k => F15c18 k s down 0 false false [] 0 0 0 0 ByteArray.empty (cand h rest).1 (cand h rest).2.1 (cand h rest).2.2.1 (cand h rest).2.2.2.1 (cand h rest).2.2.2.2.1 (cand h rest).2.2.2.2.2.1 (cand h rest).2.2.2.2.2.2.1 (cand h rest).2.2.2.2.2.2.2.1 (cand h rest).2.2.2.2.2.2.2.2.1) r) :
    Ev (fun k => F15c4 k s down 0 false false [] 0 0 0 0 ByteArray.empty (ints (h :: rest))) r := by
  refine Ev.step 1 (fun k => F15c4_eq k _ _ _ _ _ _ _ _ _ _ _ _) ?_
  have c0 : (((ints (h :: rest)).length : Int) == 0) = false := by rw [ints_len, beq_eq_false_iff_ne]; simp; omega
  have c1 : (decide (0 ≤ (1 : Int)) && decide ((1 : Int) ≤ ((ints (h :: rest)).length : Int))) = true := by rw [ints_len]; simp; omega
  have g0 : (ints (h :: rest))[0]? = some (h.toNat : Int) := rfl
  have ek : IntKind.i64.wrap (IntKind.i64.wrap (h.toNat : Int) - 1) = (h.toNat : Int) - 1 := by
    rw [wrap64 (show -9223372036854775808 ≤ (h.toNat : Int) by omega) (by omega), wrap64 (by omega) (by omega)]
  have hin : within ((h.toNat : Int) - 1) 0 5 = true := within_iff'.2 (by omega)
  simp only [c0, Bool.false_eq_true, if_false, g0, Option.bind_some, ek]
  refine Ev.bind (in_ev _ _ _) ?_
  simp only [hin, Bool.not_true, Bool.false_eq_true, if_false, c1, if_true, slices1, List.drop_succ_cons, List.drop_zero]
  have hh : h = 1 ∨ h = 2 ∨ h = 3 ∨ h = 4 ∨ h = 5 ∨ h = 6 := by
    have : h.toNat = 1 ∨ h.toNat = 2 ∨ h.toNat = 3 ∨ h.toNat = 4 ∨ h.toNat = 5 ∨ h.toNat = 6 := by omega
    rcases this with e | e | e | e | e | e
    · exact .inl (UInt8.toNat_inj.1 e)
    · exact .inr (.inl (UInt8.toNat_inj.1 e))
    · exact .inr (.inr (.inl (UInt8.toNat_inj.1 e)))
    · exact .inr (.inr (.inr (.inl (UInt8.toNat_inj.1 e))))
    · exact .inr (.inr (.inr (.inr (.inl (UInt8.toNat_inj.1 e)))))
    · exact .inr (.inr (.inr (.inr (.inr (UInt8.toNat_inj.1 e)))))
  rcases hh with rfl | rfl | rfl | rfl | rfl | rfl
  · have k0 : (((1 : UInt8).toNat : Int) - 1) = 0 := rfl
    simp only [k0, show ((0 : Int) == 1) = false from rfl, show ((0 : Int) == 2) = false from rfl, show ((0 : Int) == 3) = false from rfl, show ((0 : Int) == 4) = false from rfl, show ((0 : Int) == 5) = false from rfl, Bool.false_eq_true, if_false]
    exact hr
  · have k0 : (((2 : UInt8).toNat : Int) - 1) = 1 := rfl
    simp only [k0, show ((1 : Int) == 1) = true from rfl, if_true]
    cases rest with
    | nil =>
      simp only [show decide (((ints []).length : Int) > 0) = false from rfl, show ((1 : Int) == 2) = false from rfl, show ((1 : Int) == 3) = false from rfl, show ((1 : Int) == 4) = false from rfl, show ((1 : Int) == 5) = false from rfl, Bool.false_eq_true, if_false]
      exact hr
    | cons y R =>
      have c2 : decide (((ints (y :: R)).length : Int) > 0) = true := decide_eq_true (by rw [ints_len, List.length_cons]; omega)
      have g1 : (ints (y :: R))[0]? = some (y.toNat : Int) := rfl
      have ey : ((y.toNat : Int) == 1) = decide (y = 1) := by
        by_cases e : y = 1
        · subst e; rfl
        · rw [decide_eq_false e, beq_eq_false_iff_ne]
          intro h
          have h1 : y.toNat = 1 := by omega
          exact e (UInt8.toNat_inj.1 h1)
      simp only [c2, if_true, g1, Option.bind_some, ey]
      exact hr
  · have k0 : (((3 : UInt8).toNat : Int) - 1) = 2 := rfl
    simp only [k0, show ((2 : Int) == 1) = false from rfl, show ((2 : Int) == 2) = true from rfl, Bool.false_eq_true, if_false, if_true]
    exact Ev.bind (numOf_ev (by omega)) hr
  · have k0 : (((4 : UInt8).toNat : Int) - 1) = 3 := rfl
    simp only [k0, show ((3 : Int) == 1) = false from rfl, show ((3 : Int) == 2) = false from rfl, show ((3 : Int) == 3) = true from rfl, Bool.false_eq_true, if_false, if_true]
    match rest, hl, hr with
    | [], _, hr | [_], _, hr | [_, _], _, hr =>
      simp only [show decide (((2 : Nat) : Int) > 2) = false from rfl, ints_len, List.length_nil, List.length_cons, show decide ((((0 : Nat)) : Int) > 2) = false from rfl, show decide ((((0 + 1 : Nat)) : Int) > 2) = false from rfl, show decide ((((0 + 1 + 1 : Nat)) : Int) > 2) = false from rfl, show ((3 : Int) == 4) = false from rfl, show ((3 : Int) == 5) = false from rfl, Bool.false_eq_true, if_false]
      exact hr
    | x :: y :: z :: R, _, hr =>
      have c2 : decide (((ints (x :: y :: z :: R)).length : Int) > 2) = true := decide_eq_true (by rw [ints_len]; simp; omega)
      simp only [c2, if_true]
      exact Ev.bind (fromThree_ev x y z R) hr
  · have k0 : (((5 : UInt8).toNat : Int) - 1) = 4 := rfl
    simp only [k0, show ((4 : Int) == 1) = false from rfl, show ((4 : Int) == 2) = false from rfl, show ((4 : Int) == 3) = false from rfl, show ((4 : Int) == 4) = true from rfl, Bool.false_eq_true, if_false, if_true]
    by_cases h5 : 5 < rest.length
    · match rest, hl, hr, h5 with
      | x :: y :: z :: x' :: y' :: z' :: R, _, hr, _ =>
        have c2 : decide (((ints (x :: y :: z :: x' :: y' :: z' :: R)).length : Int) > 5) = true := decide_eq_true (by rw [ints_len]; simp; omega)
        have c3 : (decide (0 ≤ (3 : Int)) && decide ((3 : Int) ≤ ((ints (x :: y :: z :: x' :: y' :: z' :: R)).length : Int))) = true := by rw [ints_len]; simp; omega
        have e3 : slices (ints (x :: y :: z :: x' :: y' :: z' :: R)) 3 (ints (x :: y :: z :: x' :: y' :: z' :: R)).length = ints (x' :: y' :: z' :: R) := by
          unfold slices
          rw [List.take_length]
          rfl
        simp only [c2, if_true]
        refine Ev.bind (fromThree_ev x y z _) ?_
        simp only [c3, if_true, e3]
        refine Ev.bind (fromThree_ev x' y' z' R) ?_
        have b1 := n3_lt x y z
        have b2 := n3_lt x' y' z'
        simp only [wrap64 (show -9223372036854775808 ≤ ((n3 x y z : Nat) : Int) - 120000 by omega) (by omega), wrap64 (show -9223372036854775808 ≤ ((n3 x' y' z' : Nat) : Int) - 4000000 by omega) (by omega)]
        exact hr
    · have c2 : decide (((ints rest).length : Int) > 5) = false := decide_eq_false (by rw [ints_len]; omega)
      simp only [c2, show ((4 : Int) == 5) = false from rfl, Bool.false_eq_true, if_false]
      match rest, hl, hr, h5 with
      | [], _, hr, _ | [_], _, hr, _ | [_, _], _, hr, _ | [_, _, _], _, hr, _ | [_, _, _, _], _, hr, _ | [_, _, _, _, _], _, hr, _ => exact hr
      | _ :: _ :: _ :: _ :: _ :: _ :: R, _, _, h5 => exact absurd (by simp only [List.length_cons]; omega) h5
  · have k0 : (((6 : UInt8).toNat : Int) - 1) = 5 := rfl
    obtain ⟨b, t, hc⟩ := cut_ev (L := rest) (by omega)
    simp only [k0, show ((5 : Int) == 1) = false from rfl, show ((5 : Int) == 2) = false from rfl, show ((5 : Int) == 3) = false from rfl, show ((5 : Int) == 4) = false from rfl, show ((5 : Int) == 5) = true from rfl, Bool.false_eq_true, if_false, if_true, bytes_ints]
    exact Ev.bind hc hr
end
end Go.Proofs.YtiojgdjpigcgaaaGreatDoor.R
end

section
/-! Rf: what has a key is read back as it was (the program's side). -/
set_option autoImplicit false
set_option linter.unusedSimpArgs false
set_option linter.unusedVariables false
namespace Go.Proofs.YtiojgdjpigcgaaaGreatDoor.R
open Go.Rf
/-- the key of a value -/
def KX (v : Vl) (K : List UInt8) : Prop := ∃ B : List UInt8, BodyX v.1 v.2.1 v.2.2.1 v.2.2.2.1 v.2.2.2.2.1 v.2.2.2.2.2.1 v.2.2.2.2.2.2.1 v.2.2.2.2.2.2.2.1 v.2.2.2.2.2.2.2.2.1 B ∧ K = u8 (IntKind.i64.wrap (v.1 + 1)) :: B
/-- a number at its least scale -/
def Can (v : Vl) : Prop := v.1 = 2 → ∃ (z : Int) (t : Nat), v.2.2.1 = decide (z < 0) ∧ v.2.2.2.1 = digs z.natAbs ∧ v.2.2.2.2.1 = (t : Int) ∧ t ≤ 12 ∧ z.natAbs < 10 ^ 30 ∧ (t = 0 ∨ z % 10 ≠ 0)
section
variable {k0 : Int} {y n : Bool} {l : List Int} {s day mo da : Int} {t : ByteArray}
theorem empty_of {t : ByteArray} (h : t.data.toList = []) : t = ByteArray.empty := by
  rw [← Lib.mk_data t, h]
  rfl
theorem v_fields (h : vOk k0 y n l s day mo da t = true) : (k0 ≠ 1 → y = false) ∧ (k0 ≠ 2 → n = false ∧ l = [] ∧ s = 0) ∧ (k0 ≠ 3 → day = 0) ∧ (k0 ≠ 4 → mo = 0 ∧ da = 0) ∧ (k0 ≠ 5 → t = ByteArray.empty) := by
  unfold vOk bareOk decZ at h
  simp only [Bool.and_eq_true, Bool.or_eq_true, beq_iff_eq, Bool.not_eq_true'] at h
  obtain ⟨_, ⟨h1, h2, h3, h4, h5⟩, _⟩ := h
  refine ⟨fun e => h1.resolve_left e, fun e => ?_, fun e => h3.resolve_left e, fun e => h4.resolve_left e, fun e => empty_of (noText_nil (h5.resolve_left e))⟩
  obtain ⟨a, b, c⟩ := h2.resolve_left e
  exact ⟨a, List.eq_nil_of_length_eq_zero (by omega), c⟩
theorem v_body (h : vOk k0 y n l s day mo da t = true) : (k0 = 2 → decOk n l s = true) ∧ (k0 = 3 → dayOk day = true) ∧ (k0 = 4 → spanOk mo da = true) ∧ (k0 = 5 → textOk t = true) := by
  unfold vOk bodyOk at h
  simp only [Bool.and_eq_true] at h
  obtain ⟨_, _, h⟩ := h
  refine ⟨fun e => ?_, fun e => ?_, fun e => ?_, fun e => ?_⟩ <;> subst e <;> exact h
end
theorem digs_inj' {a b : Nat} (h : digs a = digs b) : a = b := by
  have h1 := VI_digs a
  rw [h, VI_digs] at h1
  omega
theorem k6 {z : Int} (h0 : 0 ≤ z) (h1 : z ≤ 5) : u8 (IntKind.i64.wrap (z + 1)) = UInt8.ofNat (z.toNat + 1) := by
  refine UInt8.toNat_inj.1 ?_
  have a := u8_nat (IntKind.i64.wrap (z + 1))
  rw [wrap64 (by omega) (by omega)] at a ⊢
  rw [UInt8.toNat_ofNat']
  omega
theorem cand_of {v : Vl} (hv : vE v = true) (hc : Can v) {K : List UInt8} (hK : KX v K) {h : UInt8} {rest R : List UInt8} (e : h :: rest = K ++ R) : cand h rest = v := by
  obtain ⟨k0, y, n, l, s, day, mo, da, t, u⟩ := v
  obtain ⟨B, S, rfl⟩ := hK
  have o : vOk k0 y n l s day mo da t = true := hv
  have hk := vOk_kind o
  obtain ⟨f1, f2, f3, f4, f5⟩ := v_fields o
  obtain ⟨b2, b3, b4, b5⟩ := v_body o
  have e : h :: rest = u8 (IntKind.i64.wrap (k0 + 1)) :: (B ++ R) := e
  rw [k6 hk.1 hk.2] at e
  obtain ⟨rfl, rfl⟩ := List.cons.inj e
  have hh : k0 = 0 ∨ k0 = 1 ∨ k0 = 2 ∨ k0 = 3 ∨ k0 = 4 ∨ k0 = 5 := by omega
  rcases hh with rfl | rfl | rfl | rfl | rfl | rfl
  · obtain rfl := f1 (by decide)
    obtain ⟨rfl, rfl, rfl⟩ := f2 (by decide)
    obtain rfl := f3 (by decide)
    obtain ⟨rfl, rfl⟩ := f4 (by decide)
    obtain rfl := f5 (by decide)
    rfl
  · obtain ⟨rfl, rfl, rfl⟩ := f2 (by decide)
    obtain rfl := f3 (by decide)
    obtain ⟨rfl, rfl⟩ := f4 (by decide)
    obtain rfl := f5 (by decide)
    rw [S.s1 rfl]
    cases y <;> rfl
  · obtain rfl := f1 (by decide)
    obtain rfl := f3 (by decide)
    obtain ⟨rfl, rfl⟩ := f4 (by decide)
    obtain rfl := f5 (by decide)
    obtain ⟨z, tt, e1, e2, e3, h12, hz30, hcan⟩ := hc rfl
    obtain ⟨z', t', e1', e2', e3', h12', hX⟩ := S.s2 rfl
    simp only at e1 e2 e3
    have ez : z'.natAbs = z.natAbs := by
      have : digs z'.natAbs = digs z.natAbs := by rw [← e2, ← e2']
      exact digs_inj' this
    have es : t' = tt := by
      have : (t' : Int) = (tt : Int) := by rw [← e3, ← e3']
      omega
    have esg : decide (z' < 0) = decide (z < 0) := by rw [← e1, ← e1']
    have ezz : z' = z := by
      have := decide_eq_decide.1 esg
      omega
    subst ezz es
    show (2, false, (numI (B ++ R)).1, digs (numI (B ++ R)).2.1, (numI (B ++ R)).2.2, 0, 0, 0, ByteArray.empty, ()) = _
    rw [numI_of h12 hcan hX, e1, e2, e3]
  · obtain rfl := f1 (by decide)
    obtain ⟨rfl, rfl, rfl⟩ := f2 (by decide)
    obtain ⟨rfl, rfl⟩ := f4 (by decide)
    obtain rfl := f5 (by decide)
    have hd : 1 ≤ day ∧ day ≤ 3652059 := within_iff'.1 (b3 rfl)
    obtain ⟨x, y', z, e3, hn⟩ := k3_back (d := day) (by omega) (by omega)
    rw [S.s3 rfl, e3]
    show (3, false, false, [], 0, (n3 x y' z : Int), 0, 0, ByteArray.empty, ()) = _
    rw [hn]
  · obtain rfl := f1 (by decide)
    obtain ⟨rfl, rfl, rfl⟩ := f2 (by decide)
    obtain rfl := f3 (by decide)
    obtain rfl := f5 (by decide)
    have hs : spanOk mo da = true := b4 rfl
    unfold spanOk at hs
    rw [Bool.and_eq_true] at hs
    have h1 := within_iff'.1 hs.1
    have h2 := within_iff'.1 hs.2
    obtain ⟨x, y', z, e3, hn⟩ := k3_back (d := mo + 120000) (by omega) (by omega)
    obtain ⟨x2, y2, z2, e4, hn2⟩ := k3_back (d := da + 4000000) (by omega) (by omega)
    rw [S.s4 rfl, e3, e4]
    show (4, false, false, [], 0, 0, (n3 x y' z : Int) - 120000, (n3 x2 y2 z2 : Int) - 4000000, ByteArray.empty, ()) = _
    rw [hn, hn2]
    congr 1
    simp
  · obtain rfl := f1 (by decide)
    obtain ⟨rfl, rfl, rfl⟩ := f2 (by decide)
    obtain rfl := f3 (by decide)
    obtain ⟨rfl, rfl⟩ := f4 (by decide)
    obtain ⟨h0, e5⟩ := S.s5 rfl
    rw [e5]
    show (5, false, false, [], 0, 0, 0, 0, ba (upto0 (t.data.toList ++ [0] ++ R)), ()) = _
    rw [List.append_assoc, List.singleton_append, upto0_app _ _ h0, of_data]
end Go.Proofs.YtiojgdjpigcgaaaGreatDoor.R
end

section
/-! Rf: a key is read back (the other side): what it is made of. -/
set_option autoImplicit false
set_option linter.unusedSimpArgs false
set_option linter.unusedVariables false
namespace Go.Proofs.YtiojgdjpigcgaaaGreatDoor.R
open Go.Rf
theorem ltB {L : List UInt8} {i : Nat} (h : i < L.length) : decide ((i : Int) < ((ba L).size : Int)) = true := lt_true h
theorem geB {L : List UInt8} {i : Nat} (h : L.length ≤ i) : decide ((i : Int) < ((ba L).size : Int)) = false := lt_false h
theorem ba_at {L : List UInt8} {i : Nat} (h : i < L.length) : (ba L)[i]? = some L[i] := by rw [ba_get, List.getElem?_eq_getElem h]
/-! ### figures, exactly -/
theorem ffX : ∀ (m : Nat) (M : List UInt8) (x : List Int), M.length ≤ m → Dig M → InR x → x.length + M.length ≤ 1000 → Ev (fun k => F190c2 k (ba M) x) ((digs (VI x + (dv M : Int) * 10000 ^ x.length).toNat, ()), ((), ())) := by
  intro m
  induction m using Nat.strongRecOn with
  | _ m ih =>
    intro M x hm hM hx hl
    by_cases h0 : M.length = 0
    · obtain rfl : M = [] := List.eq_nil_of_length_eq_zero h0
      have ht := l1Trim_ev hx (by omega)
      refine Ev.step 1 (fun k => F190c2_eq k _ _) ?_
      simp only [show decide (((ba []).size : Int) > 0) = false from rfl, Bool.false_eq_true, if_false, dv_nil, Int.natCast_zero, Int.zero_mul, Int.add_zero]
      exact Ev.bind ht (Ev.now _)
    · have hp : decide (((ba M).size : Int) > 0) = true := decide_eq_true (by rw [ba_size]; omega)
      obtain ⟨f, hf⟩ : ∃ f, f = M.length - 4 := ⟨_, rfl⟩
      have hfl : f < M.length := by omega
      have hC : Dig (M.drop f) := hM.drop f
      have hd := dv_lt hC
      have hd4 : dv (M.drop f) < 10000 := by
        have : 10 ^ (M.drop f).length ≤ 10 ^ 4 := Nat.pow_le_pow_right (by omega) (by rw [List.length_drop]; omega)
        omega
      have hM2 : dv M = dv (M.take f) * 10 ^ (M.drop f).length + dv (M.drop f) := by
        conv => lhs; rw [← List.take_append_drop f M]
        rw [dv_app]
      have hsum : VI (x ++ [(dv (M.drop f) : Int)]) + (dv (M.take f) : Int) * 10000 ^ (x ++ [(dv (M.drop f) : Int)]).length = VI x + (dv M : Int) * 10000 ^ x.length := by
        rw [VI_snoc, List.length_append, List.length_singleton, Int.pow_succ, hM2]
        by_cases h4 : M.length < 4
        · have : f = 0 := by omega
          subst this
          rw [List.take_zero, dv_nil, Nat.zero_mul, Nat.zero_add]
          simp
        · have : (M.drop f).length = 4 := by rw [List.length_drop]; omega
          rw [this, Int.natCast_add, Int.natCast_mul, Int.add_mul]
          have e : ((10 ^ 4 : Nat) : Int) = 10000 := rfl
          rw [e, Int.add_assoc, Int.add_comm ((dv (M.drop f) : Int) * _), Int.mul_assoc (dv (M.take f) : Int) 10000, Int.mul_comm (10000 : Int) (10000 ^ x.length)]
      have next := ih f (by omega) (M.take f) (x ++ [(dv (M.drop f) : Int)]) (by rw [List.length_take]; omega) (hM.take f) (inrSnoc hx (by omega)) (by rw [List.length_append, List.length_take]; simp; omega)
      rw [hsum] at next
      have walk : ∀ (q i : Nat), i + q = M.length → f ≤ i → Ev (fun k => F190c8 k (ba M) x (f : Int) (dv ((M.take i).drop f) : Int) (i : Int)) ((digs (VI x + (dv M : Int) * 10000 ^ x.length).toNat, ()), ((), ())) := by
        intro q
        induction q with
        | zero =>
          intro i hi hfi
          obtain rfl : i = M.length := by omega
          rw [List.take_length]
          refine Ev.step 1 (fun k => F190c8_eq k _ _ _ _ _) ?_
          have c1 : decide (x.length + [(dv (M.drop f) : Int)].length ≤ 17592186044416) = true := decide_eq_true (by simp; omega)
          have c2 : (decide (0 ≤ (f : Int)) && decide ((f : Int) ≤ ((ba M).size : Int))) = true := by rw [ba_size]; simp; omega
          simp only [geB (Nat.le_refl M.length), Bool.false_eq_true, if_false, c1, if_true, c2, Int.toNat_natCast, ba_extract, List.drop_zero]
          exact next
        | succ q ihq =>
          intro i hi hfi
          have hlt : i < M.length := by omega
          have hb := hM _ (List.getElem_mem hlt)
          have g := ihq (i + 1) (by omega) (by omega)
          have et : (M.take (i + 1)).drop f = (M.take i).drop f ++ [M[i]] := by
            rw [List.take_add_one, List.getElem?_eq_getElem hlt, Option.toList_some, List.drop_append_of_le_length (by rw [List.length_take]; omega)]
          have hdi := dv_lt ((hM.take i).drop f)
          have h3 : 10 ^ ((M.take i).drop f).length ≤ 10 ^ 3 := Nat.pow_le_pow_right (by omega) (by rw [List.length_drop, List.length_take]; omega)
          rw [et, dv_app, dv_one, List.length_singleton, Nat.pow_one] at g
          have e1 : IntKind.i64.wrap ((dv ((M.take i).drop f) : Int) * 10) = ((dv ((M.take i).drop f) * 10 : Nat) : Int) := by rw [wrap64 (by omega) (by omega)]; omega
          have e0 : IntKind.i64.wrap (IntKind.u8.wrap ((M[i].toNat : Int) - 48)) = ((M[i].toNat - 48 : Nat) : Int) := by
            rw [wrap8, Int.emod_eq_of_lt (by omega) (by omega), wrap64 (by omega) (by omega)]
            omega
          have e2 : IntKind.i64.wrap (((dv ((M.take i).drop f) * 10 : Nat) : Int) + ((M[i].toNat - 48 : Nat) : Int)) = ((dv ((M.take i).drop f) * 10 + (M[i].toNat - 48) : Nat) : Int) := by rw [wrap64 (by omega) (by omega)]; omega
          refine Ev.step 1 (fun k => F190c8_eq k _ _ _ _ _) ?_
          simp only [ltB hlt, ge0, if_true, Int.toNat_natCast, ba_at hlt, Option.bind_some, e0, e1, e2, wrap_succ (show i < 9223372036854775807 by omega)]
          exact g
      have start : Ev (fun k => F190c6 k (ba M) x (f : Int)) ((digs (VI x + (dv M : Int) * 10000 ^ x.length).toNat, ()), ((), ())) := by
        have := walk (M.length - f) f (by omega) (Nat.le_refl _)
        rw [show (M.take f).drop f = [] from List.drop_eq_nil_of_le (by rw [List.length_take]; omega)] at this
        exact Ev.step 1 (fun k => F190c6_eq k _ _ _) this
      have e4 : IntKind.i64.wrap (((ba M).size : Int) - 4) = (M.length : Int) - 4 := by rw [ba_size]; exact wrap64 (by omega) (by omega)
      refine Ev.step 1 (fun k => F190c2_eq k _ _) ?_
      by_cases h4 : M.length < 4
      · simp only [hp, if_true, e4, decide_eq_true (show (M.length : Int) - 4 < 0 by omega)]
        rw [show f = 0 by omega] at start
        exact start
      · simp only [hp, if_true, e4, decide_eq_false (show ¬ (M.length : Int) - 4 < 0 by omega), Bool.false_eq_true, if_false]
        rw [show (M.length : Int) - 4 = (f : Int) by omega]
        exact start
theorem ff_ex {M : List UInt8} (hM : Dig M) (hl : M.length ≤ 900) : Ev (fun k => F190 k (ba M)) ((digs (dv M), ()), ((), ())) := by
  have := ffX M.length M [] (Nat.le_refl _) hM InR.nil (by simp; omega)
  have e : (VI [] + (dv M : Int) * 10000 ^ ([] : List Int).length).toNat = dv M := by
    show ((0 : Int) + (dv M : Int) * 10000 ^ 0).toNat = dv M
    rw [Int.pow_zero, Int.mul_one, Int.zero_add, Int.toNat_natCast]
  rw [e] at this
  exact Ev.step 2 (fun k => F190_eq k _) this
/-! ### where the first byte 0 stands -/
def fz : List UInt8 → Option Nat
  | [] => none
  | b :: L => if b = 0 then some 0 else (fz L).map (· + 1)
theorem fz_app : ∀ (T R : List UInt8), (∀ b ∈ T, b ≠ 0) → fz (T ++ 0 :: R) = some T.length
  | [], R, _ => rfl
  | b :: T, R, h => by
    rw [List.cons_append, fz, if_neg (h b List.mem_cons_self), fz_app T R fun c hc => h c (List.mem_cons_of_mem _ hc)]
    rfl
theorem fz_some : ∀ {L : List UInt8} {j : Nat}, fz L = some j → ∃ R, L = L.take j ++ 0 :: R ∧ (∀ b ∈ L.take j, b ≠ 0) ∧ (L.take j).length = j
  | [], _, h => by cases h
  | b :: L, j, h => by
    unfold fz at h
    by_cases hb : b = 0
    · subst hb
      rw [if_pos rfl] at h
      obtain rfl := Option.some.inj h
      exact ⟨L, rfl, fun c hc => by simp at hc, rfl⟩
    · rw [if_neg hb] at h
      obtain ⟨i, hi, rfl⟩ := Option.map_eq_some_iff.1 h
      obtain ⟨R, h1, h2, h3⟩ := fz_some hi
      refine ⟨R, ?_, fun c hc => ?_, by rw [List.take_succ_cons, List.length_cons, h3]⟩
      · rw [List.take_succ_cons, List.cons_append, ← h1]
      · rw [List.take_succ_cons] at hc
        rcases List.mem_cons.1 hc with rfl | hc
        · exact hb
        · exact h2 c hc
def fzI (i : Nat) : Option Nat → Int
  | some j => ((i + j : Nat) : Int)
  | none => -1
theorem end_ev {L : List UInt8} (hl : L.length ≤ 2000000) : ∀ (m i : Nat), i + m = max i L.length → Ev (fun k => F133c2 k (ba L) (i : Int)) ((fzI i (fz (L.drop i)), ()), ((), (), ())) := by
  intro m
  induction m with
  | zero =>
    intro i hi
    rw [List.drop_eq_nil_of_le (by omega)]
    refine Ev.step 1 (fun k => F133c2_eq k _ _) ?_
    simp only [geB (show L.length ≤ i by omega), Bool.false_eq_true, if_false]
    exact Ev.now _
  | succ m ih =>
    intro i hi
    have hlt : i < L.length := by omega
    have hd : L.drop i = L[i] :: L.drop (i + 1) := List.drop_eq_getElem_cons hlt
    refine Ev.step 1 (fun k => F133c2_eq k _ _) ?_
    simp only [ltB hlt, ge0, if_true, Int.toNat_natCast, ba_at hlt, Option.bind_some]
    rw [hd, fz]
    by_cases h0 : L[i] = 0
    · have c : ((L[i].toNat : Int) == 0) = true := by rw [h0]; rfl
      rw [if_pos h0]
      simp only [c, if_true]
      exact Ev.now _
    · have c : ((L[i].toNat : Int) == 0) = false := by
        rw [beq_eq_false_iff_ne]
        intro e
        have e1 : L[i].toNat = 0 := by omega
        exact h0 (UInt8.toNat_inj.1 e1)
      rw [if_neg h0]
      simp only [c, Bool.false_eq_true, if_false, wrap_succ (show i < 9223372036854775807 by omega)]
      have g := ih (i + 1) (by omega)
      have e : fzI i ((fz (L.drop (i + 1))).map (· + 1)) = fzI (i + 1) (fz (L.drop (i + 1))) := by
        cases fz (L.drop (i + 1)) with
        | none => rfl
        | some j => show ((i + (j + 1) : Nat) : Int) = ((i + 1 + j : Nat) : Int); omega
      rw [e]
      exact g
theorem l5End_ev {L : List UInt8} (hl : L.length ≤ 2000000) : Ev (fun k => F133 k (ba L) 1) ((fzI 1 (fz (L.drop 1)), ()), ((), (), ())) :=
  Ev.step 2 (fun k => F133_eq k _ _) (end_ev hl (max 1 L.length - 1) 1 (by omega))
end Go.Proofs.YtiojgdjpigcgaaaGreatDoor.R
end
