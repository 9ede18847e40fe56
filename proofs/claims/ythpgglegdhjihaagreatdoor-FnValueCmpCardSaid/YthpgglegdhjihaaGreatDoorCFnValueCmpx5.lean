/- A part of the proof that the law FnValueCmp answers true for every input: contracts of functions that it reaches, or its plain law. -/
import Derived.Lib.Strings
import Derived.Lib.Bytealg
import Derived.Test.YthpgglegdhjihaaGreatDoorCFnValueCmpx0
import Derived.Test.YthpgglegdhjihaaGreatDoorCFnValueCmpx2
import Derived.Test.YthpgglegdhjihaaGreatDoorCFnValueCmpx3
import Derived.Test.YthpgglegdhjihaaGreatDoorCFnValueCmpx4
section
/-! Rf, decimals: figures; what is in order. -/
set_option autoImplicit false
set_option linter.unusedSimpArgs false
namespace Go.Proofs.YthpgglegdhjihaaGreatDoor.R
open Go.Rf
theorem toIntS_ev (l : List Int) (h : l.length ≤ 1048576) : Ev (fun k => F18 k l) ((l, ()), ((), ())) := by
  refine Ev.step 2 (fun k => F18_eq k l) ?_
  have c : (decide (0 ≤ (l.length : Int)) && decide ((l.length : Int) ≤ (l.length : Int)) && decide ((l.length : Int) ≤ (17592186044416 : Int))) = true := by simp; omega
  simp only [c, if_true]
  have := copy_loop (L := fun k x3 i => F18c3 k l x3 i) (x0 := l) (g := fun _ y => some y) (f := id) (fin := fun x => ((x, ()), ((), ()))) (h := id) (by omega) (fun k x3 i => F18c3_eq k l x3 i) (fun y _ => Ev.now y)
    (List.replicate (l.length : Int).toNat (0 : Int)) (by simp)
  simpa using this
theorem eqIntS_ev (l : List Int) (h : l.length ≤ 1048576) : Ev (fun k => F22 k l l) ((true, ()), ((), (), ())) := by
  refine Ev.step 2 (fun k => F22_eq k l l) ?_
  simp only [bne_self_eq_false, Bool.false_eq_true, if_false]
  exact same_loop (L := fun k i => F22c4 k l l i) (x0 := l) (g := fun _ y1 y2 => some (y1 == y2)) (p := id) (no := ((false, ()), ((), (), ()))) (h := fun _ => true) (by omega) (fun k i => F22c4_eq k l l i) (fun y _ => by
    simp only [beq_self_eq_true]
    exact ⟨Ev.now _, rfl⟩)
theorem szIntS_ev (l : List Int) (hlen : l.length ≤ 9223372036854775807) (b : Int) (h0 : 0 ≤ b) (hb : b ≤ 1048576) : ∃ r, Ev (fun k => F89 k l b) r ∧ (r.1.1 < 0 ∨ (0 ≤ r.1.1 ∧ r.1.1 ≤ b ∧ l.length ≤ 1048576)) := by
  have st : ∀ {r}, Ev (fun _ => if decide (IntKind.i64.wrap (b - (l.length : Int)) < (0 : Int)) = true then some (((-1 : Int), ()), ((), (), ())) else some (((IntKind.i64.wrap (b - (l.length : Int))), ()), ((), (), ()))) r → Ev (fun k => F89 k l b) r := fun h => Ev.step 2 (fun k => F89_eq k l b) h
  rw [wrap64 (by omega) (by omega)] at st
  by_cases hn : b - (l.length : Int) < 0
  · refine ⟨(((-1 : Int), ()), ((), (), ())), st ?_, .inl (by decide : (-1 : Int) < 0)⟩
    simp only [hn, decide_true, if_true]
    exact Ev.now _
  · refine ⟨(((b - (l.length : Int)), ()), ((), (), ())), st ?_, .inr ?_⟩
    · have : decide (b - (l.length : Int) < 0) = false := by simp; omega
      simp only [this, Bool.false_eq_true, if_false]
      exact Ev.now _
    · exact ⟨by show 0 ≤ b - (l.length : Int); omega, by show b - (l.length : Int) ≤ b; omega, by omega⟩
theorem l1In_ev (n lo hi : Int) : Ev (fun k => F56 k n lo hi) ((within n lo hi, ()), ((), (), (), ())) := by
  refine Ev.step 2 (fun k => F56_eq k n lo hi) ?_
  unfold within
  cases decide (n ≥ lo) with
  | true => exact Ev.now _
  | false => exact Ev.now _
theorem in_ev (n lo hi : Int) : Ev (fun k => F45 k n lo hi) ((within n lo hi, ()), ((), (), (), ())) := by
  refine Ev.step 2 (fun k => F45_eq k n lo hi) ?_
  unfold within
  cases decide (n ≥ lo) with
  | true => exact Ev.now _
  | false => exact Ev.now _
/-! ### figures -/
theorem l1Dec_ev : ∀ n : Nat, n ≤ 1000000000000000000 → Ev (fun k => F130 k (n : Int)) ((⟨(Lib.decDigits n).toArray⟩, ()), ((), ())) := by
  intro n
  induction n using Nat.strongRecOn with
  | _ n ih =>
    intro hn
    have c1 : decide ((n : Int) < (-9223372036854775807 : Int)) = false := decide_eq_false (by omega)
    have c2 : decide ((n : Int) < 0) = false := decide_eq_false (by omega)
    refine Ev.step 2 (fun k => F130_eq k n) ?_
    simp only [c1, c2, Bool.false_eq_true, if_false]
    by_cases h : n < 10
    · have c3 : decide ((n : Int) < 10) = true := decide_eq_true (by omega)
      rw [Lib.decDigits, dif_pos h]
      simp only [c3, if_true, bytesOf_digit h]
      exact Ev.now _
    · have c3 : decide ((n : Int) < 10) = false := decide_eq_false (by omega)
      have e1 : IntKind.i64.wrap ((n : Int).tdiv 10) = ((n / 10 : Nat) : Int) := by
        rw [Int.tdiv_eq_ediv_of_nonneg (by omega), wrap64 (by omega) (by omega)]
        omega
      have e2 : (n : Int).tmod 10 = ((n % 10 : Nat) : Int) := by
        rw [Int.tmod_eq_emod_of_nonneg (by omega)]
        omega
      have hl := decDigits_len 18 (n / 10) (by omega)
      rw [Lib.decDigits, dif_neg h]
      simp only [c3, Bool.false_eq_true, if_false, e1, e2, bytesOf_digit (show n % 10 < 10 by omega)]
      refine Ev.bind (ih (n / 10) (by omega) (by omega)) ?_
      have hb : Nat.ble ((Lib.decDigits (n / 10)).length + [UInt8.ofNat (48 + n % 10)].length) 9223372036854775807 = true := Nat.ble_eq_true_of_le (by simp; omega)
      simp only [bytes_size, hb, if_true, bytes_append]
      exact Ev.now _
theorem l1Wide_ev {d : Int} (h : 0 ≤ d ∧ d ≤ 9999) : Ev (fun k => F131 k d 4) ((⟨(fig4 d).toArray⟩, ()), ((), (), ())) := by
  obtain ⟨n, rfl⟩ : ∃ n : Nat, d = (n : Int) := ⟨d.toNat, by omega⟩
  have hl := itoa_len4 h
  refine Ev.step 2 (fun k => F131_eq k _ _) (Ev.bind (l1Dec_ev n (by omega)) ?_)
  have key : ∀ (m : Nat) (x : List UInt8), x.length + m = 4 ∨ (m = 0 ∧ 4 ≤ x.length) → Ev (fun k => F131c2 k 4 ⟨x.toArray⟩) ((⟨(Lib.repeatL [48] m ++ x).toArray⟩, ()), ((), (), ())) := by
    intro m
    induction m with
    | zero =>
      intro x hx
      have c : decide ((x.length : Int) < 4) = false := decide_eq_false (by omega)
      refine Ev.step 1 (fun k => F131c2_eq k _ _) ?_
      simp only [bytes_size, c, Bool.false_eq_true, if_false]
      exact Ev.now _
    | succ m ih =>
      intro x hx
      have c : decide ((x.length : Int) < 4) = true := decide_eq_true (by omega)
      have hb : Nat.ble ([(48 : UInt8)].length + x.length) 9223372036854775807 = true := Nat.ble_eq_true_of_le (by simp; omega)
      refine Ev.step 1 (fun k => F131c2_eq k _ _) ?_
      have e : (⟨#[48]⟩ : ByteArray) = ⟨[(48 : UInt8)].toArray⟩ := rfl
      simp only [e, bytes_size, c, if_true, hb, bytes_append]
      have := ih ([48] ++ x) (by simp; omega)
      have e2 : Lib.repeatL [48] m ++ ([48] ++ x) = Lib.repeatL [48] (m + 1) ++ x := by
        rw [Lib.repeatL_add, Lib.repeatL_one, List.append_assoc]
      rw [e2] at this
      exact this
  have := key (4 - (Lib.itoa (n : Int)).length) (Lib.decDigits n) (by rw [itoa_nat] at hl ⊢; omega)
  unfold fig4
  rw [itoa_nat] at this ⊢
  exact this
theorem l1Figures_ev {l : List Int} (hr : InR l) (hl : l.length ≤ 1000000) : Ev (fun k => F108 k l) ((textL l, ()), ((), ())) := by
  refine Ev.step 2 (fun k => F108_eq k l) ?_
  rcases Nat.eq_zero_or_pos l.length with h0 | h0
  · obtain rfl := List.eq_nil_of_length_eq_zero h0
    exact Ev.now _
  · obtain ⟨n, hn⟩ : ∃ n, l.length = n + 1 := ⟨l.length - 1, by omega⟩
    have c : ((l.length : Int) == 0) = false := len0_false h0
    have hlt : n < l.length := by omega
    have rn := hr.at hlt
    obtain ⟨d, hd⟩ : ∃ d : Nat, l.getD n 0 = (d : Int) := ⟨(l.getD n 0).toNat, by omega⟩
    simp only [c, Bool.false_eq_true, if_false, pred_len hn (by omega), ge0, if_true, Int.toNat_natCast, getI_of hlt, Option.bind_some, hd]
    refine Ev.bind (l1Dec_ev d (by omega)) ?_
    have w : IntKind.i64.wrap ((l.length : Int) - 2) = (n : Int) - 1 := by rw [wrap64 (by omega) (by omega)]; omega
    rw [w, textL_pos (by intro e; subst e; simp at h0)]
    have key : ∀ m, m ≤ n → Ev (fun k => F108c5 k l ⟨(figs (l.drop m)).toArray⟩ ((m : Int) - 1)) ((⟨(figs l).toArray⟩, ()), ((), ())) := by
      intro m
      induction m with
      | zero =>
        intro _
        exact Ev.step 1 (fun k => F108c5_eq k _ _ _) (Ev.now _)
      | succ m ih =>
        intro hm
        have e : ((m + 1 : Nat) : Int) - 1 = (m : Int) := by omega
        have hge : decide ((m : Int) ≥ 0) = true := by simp
        have hml : m < l.length := by omega
        have h1 := figs_len (l := l.drop (m + 1)) (fun d hd => hr d (List.mem_of_mem_drop hd))
        have h2 := fig4_len (hr.at hml)
        have hb : Nat.ble ((figs (l.drop (m + 1))).length + (fig4 (l.getD m 0)).length) 9223372036854775807 = true := Nat.ble_eq_true_of_le (by rw [List.length_drop] at h1; omega)
        rw [e]
        refine Ev.step 1 (fun k => F108c5_eq k _ _ _) ?_
        simp only [hge, if_true, ge0, Int.toNat_natCast, getI_of hml, Option.bind_some]
        refine Ev.bind (l1Wide_ev (hr.at hml)) ?_
        simp only [bytes_size, hb, if_true, bytes_append, ← figs_drop (show m + 1 < l.length by omega)]
        rw [wrap64 (by omega) (by omega)]
        exact ih (by omega)
    have := key n (Nat.le_refl _)
    rw [figs_last hn, hd, itoa_nat] at this
    exact this
theorem l1Long_ev {l : List Int} (hr : InR l) (hl : l.length ≤ 1000000) : Ev (fun k => F92 k l) ((long l, ()), ((), ())) := by
  refine Ev.step 2 (fun k => F92_eq k l) ?_
  unfold long
  by_cases h : l.length = 0
  · have c : ((l.length : Int) == 0) = true := by simp [h]
    simp only [c, if_true, h]
    exact Ev.now _
  · have c : ((l.length : Int) == 0) = false := len0_false (Nat.pos_of_ne_zero h)
    simp only [c, h, Bool.false_eq_true, if_false]
    exact Ev.bind (l1Figures_ev hr hl) (Ev.now _)
theorem text_ev {l : List Int} (hr : InR l) (hl : l.length ≤ 1000000) : Ev (fun k => F107 k l) ((textL l, ()), ((), ())) := by
  refine Ev.step 1 (fun k => F107_eq k l) ?_
  have : textR (l, ()) = some ((textL l, ()), ((), ())) := if_pos (limbsOk_of hr hl)
  rw [this]
  exact Ev.now _
theorem digits_ev {l : List Int} (hr : InR l) (hl : l.length ≤ 1000000) : Ev (fun k => F88 k l) ((long l, ()), ((), ())) := by
  refine Ev.step 2 (fun k => F88_eq k l) ?_
  unfold long
  by_cases h : l.length = 0
  · have c : ((l.length : Int) == 0) = true := by simp [h]
    simp only [c, if_true, h]
    exact Ev.now _
  · have c : ((l.length : Int) == 0) = false := len0_false (Nat.pos_of_ne_zero h)
    simp only [c, h, Bool.false_eq_true, if_false]
    exact Ev.bind (text_ev hr hl) (Ev.now _)
/-! ### in order -/
theorem idx_ev (l : List Int) (h : l.length ≤ 1048576) : ∃ r, Ev (fun k => F107074 k l) r ∧ decide (r.1.1 ≥ (0 : Int)) = !rangeOk l := by
  obtain ⟨r, h1, h2⟩ := find_loop (L := fun k i => F107074c2 k l (l.length : Int) i) (n := l.length) (no := fun i => (((i : Int), ()), ((), (), ()))) (yes := (((-1 : Int), ()), ((), (), ()))) (c := fun i => within (l.getD i 0) 0 9999) (fun i hi hc => by
      refine Ev.step 1 (fun k => F107074c2_eq k l _ i) ?_
      simp only [lt_true hi, ge0, if_true, Int.toNat_natCast, getI_of hi, Option.bind_some]
      refine Ev.bind (Ev.step 2 (fun k => F106_eq k _) (Ev.bind (in_ev _ _ _) (Ev.now _))) ?_
      simp only [hc, Bool.not_false, if_true]
      exact Ev.now _) (fun i hi hc r hr => by
      refine Ev.step 1 (fun k => F107074c2_eq k l _ i) ?_
      simp only [lt_true hi, ge0, if_true, Int.toNat_natCast, getI_of hi, Option.bind_some]
      refine Ev.bind (Ev.step 2 (fun k => F106_eq k _) (Ev.bind (in_ev _ _ _) (Ev.now _))) ?_
      simp only [hc, Bool.not_true, Bool.false_eq_true, if_false]
      rw [wrap_succ (by omega)]
      exact hr) (by
      refine Ev.step 1 (fun k => F107074c2_eq k l _ l.length) ?_
      simp only [lt_false (Nat.le_refl l.length), Bool.false_eq_true, if_false]
      exact Ev.now _)
  refine ⟨r, Ev.step 2 (fun k => F107074_eq k l) h1, ?_⟩
  unfold rangeOk
  rcases h2 with ⟨h2, rfl⟩ | ⟨h2, i, _, rfl⟩
  · rw [h2]; rfl
  · rw [h2]; simp
theorem has_ev (l : List Int) (h : l.length ≤ 1048576) : Ev (fun k => F107043 k l) ((!rangeOk l, ()), ((), (), ())) := by
  obtain ⟨r, h1, h2⟩ := idx_ev l h
  refine Ev.step 2 (fun k => F107043_eq k l) (Ev.bind h1 ?_)
  simp only [h2]
  exact Ev.now _
theorem BigOk_ev (neg : Bool) (l : List Int) (h : l.length ≤ 1048576) : Ev (fun k => F87 k neg l) ((bOk neg l, ()), (((), (), ()), ())) := by
  refine Ev.step 2 (fun k => F87_eq k neg l) ?_
  unfold bOk lastOk
  by_cases h16 : l.length ≤ 16
  · have c16 : decide ((l.length : Int) ≤ 16) = true := decide_eq_true (by omega)
    rcases Nat.eq_zero_or_pos l.length with h0 | h0
    · have c0 : ((l.length : Int) == 0) = true := by simp [h0]
      have cg : decide ((l.length : Int) > 0) = false := by simp [h0]
      simp only [c16, h16, c0, cg, h0, decide_true, if_true, Bool.true_and]
      cases neg with
      | true =>
        simp only [Bool.not_true, Bool.false_eq_true, if_false, Bool.and_false]
        exact Ev.now _
      | false =>
        simp only [Bool.not_false, if_true, Bool.and_true]
        refine Ev.bind (has_ev l h) ?_
        simp only [Bool.not_not]
        exact Ev.now _
    · obtain ⟨n, hn⟩ : ∃ n, l.length = n + 1 := ⟨l.length - 1, by omega⟩
      have c0 : ((l.length : Int) == 0) = false := len0_false h0
      have hne : ¬ l.length = 0 := by omega
      have hlt : n < l.length := by omega
      have e : l.length - 1 = n := by omega
      simp only [c16, h16, c0, hne, e, gt_true h0, pred_len hn (by omega), ge0, decide_true, if_true, Bool.true_and, Bool.false_eq_true, if_false, Int.toNat_natCast, getI_of hlt, Option.bind_some]
      cases hz : (l.getD n 0 != 0) with
      | true =>
        simp only [if_true, Bool.and_true]
        refine Ev.bind (has_ev l h) ?_
        simp only [Bool.not_not]
        exact Ev.now _
      | false =>
        simp only [Bool.false_eq_true, if_false, Bool.and_false]
        exact Ev.now _
  · have c16 : decide ((l.length : Int) ≤ 16) = false := decide_eq_false (by omega)
    simp only [c16, h16, decide_false, Bool.false_and, Bool.false_eq_true, if_false]
    exact Ev.now _
theorem l1Ok_ev (neg : Bool) (l : List Int) (h : l.length ≤ 1048576) : Ev (fun k => F91 k neg l) ((bOk neg l, ()), (((), (), ()), ())) := by
  refine Ev.step 2 (fun k => F91_eq k neg l) ?_
  by_cases h16 : l.length ≤ 16
  · have c16 : decide ((l.length : Int) > 16) = false := decide_eq_false (by omega)
    have loop : ∀ {q : Bool}, (l.length = 0 → q = true) → (∀ n, l.length = n + 1 → q = (l.getD n 0 != 0)) → Ev (fun k => F91c4 k neg l 0) ((rangeOk l && q, ()), (((), (), ()), ())) := by
      intro q q0 q1
      have := all_loop' (L := fun k i => F91c4 k neg l i) (n := l.length) (c := fun i => within (l.getD i 0) 0 9999) (no := ((false, ()), (((), (), ()), ()))) (yes := ((q, ()), (((), (), ()), ()))) (fun i hi hc => by
        refine Ev.step 1 (fun k => F91c4_eq k _ _ _) ?_
        simp only [lt_true hi, ge0, if_true, Int.toNat_natCast, getI_of hi, Option.bind_some]
        refine Ev.bind (l1In_ev _ _ _) ?_
        simp only [hc, Bool.not_false, if_true]
        exact Ev.now _) (fun i hi hc r hr => by
        refine Ev.step 1 (fun k => F91c4_eq k _ _ _) ?_
        simp only [lt_true hi, ge0, if_true, Int.toNat_natCast, getI_of hi, Option.bind_some]
        refine Ev.bind (l1In_ev _ _ _) ?_
        simp only [hc, Bool.not_true, Bool.false_eq_true, if_false]
        rw [wrap_succ (by omega)]
        exact hr) (fun _ => by
        refine Ev.step 1 (fun k => F91c4_eq k _ _ _) ?_
        simp only [lt_false (Nat.le_refl l.length), Bool.false_eq_true, if_false]
        rcases Nat.eq_zero_or_pos l.length with h0 | h0
        · have c0 : ((l.length : Int) == 0) = true := by simp [h0]
          simp only [c0, if_true, q0 h0]
          exact Ev.now _
        · obtain ⟨n, hn⟩ : ∃ n, l.length = n + 1 := ⟨l.length - 1, by omega⟩
          have c0 : ((l.length : Int) == 0) = false := len0_false h0
          have hlt : n < l.length := by omega
          simp only [c0, Bool.false_eq_true, if_false, pred_len hn (by omega), ge0, if_true, Int.toNat_natCast, getI_of hlt, Option.bind_some, q1 n hn]
          exact Ev.now _)
      unfold rangeOk
      cases hall : (List.range l.length).all (fun i => within (l.getD i 0) 0 9999) with
      | true =>
        rw [hall] at this
        simpa using this
      | false =>
        rw [hall] at this
        simpa using this
    unfold bOk lastOk
    simp only [c16, h16, decide_true, Bool.true_and, Bool.false_eq_true, if_false]
    by_cases h0 : l.length = 0
    · have c0 : ((l.length : Int) == 0) = true := by simp [h0]
      cases neg with
      | true =>
        simp only [c0, h0, if_true, Bool.not_true, Bool.and_false]
        exact Ev.now _
      | false =>
        have := loop (q := true) (fun _ => rfl) (fun n hn => by omega)
        simpa only [h0, if_true, Bool.not_false, Bool.false_eq_true, if_false] using this
    · have c0 : ((l.length : Int) == 0) = false := len0_false (Nat.pos_of_ne_zero h0)
      have := loop (q := (l.getD (l.length - 1) 0 != 0)) (fun e => absurd e h0) (fun n hn => by rw [hn]; rfl)
      cases neg with
      | true => simpa only [c0, h0, if_true, Bool.false_eq_true, if_false] using this
      | false => simpa only [h0, Bool.false_eq_true, if_false] using this
  · have c16 : decide ((l.length : Int) > 16) = true := decide_eq_true (by omega)
    unfold bOk
    simp only [c16, h16, decide_false, Bool.false_and, if_true]
    exact Ev.now _
end Go.Proofs.YthpgglegdhjihaaGreatDoor.R
end

section
/-! Rf, decimals: compared; the law's helpers. -/
set_option autoImplicit false
namespace Go.Proofs.YthpgglegdhjihaaGreatDoor.R
open Go.Rf
theorem DecOk_ev (neg : Bool) (l : List Int) (s : Int) (h : l.length ≤ 1048576) : Ev (fun k => F51 k neg l s) ((decOk neg l s, ()), (((), (), (), ()), ())) := by
  refine Ev.step 2 (fun k => F51_eq k neg l s) (Ev.bind (BigOk_ev neg l h) ?_)
  unfold decOk
  cases hb : bOk neg l with
  | false => exact Ev.now _
  | true =>
    obtain ⟨h16, hr, _, _⟩ := bOk_of hb
    simp only [if_true, Bool.true_and]
    refine Ev.bind (digits_ev hr (by omega)) ?_
    cases decide (long l ≤ 30) with
    | false => exact Ev.now _
    | true =>
      simp only [if_true, Bool.true_and]
      exact Ev.bind (in_ev _ _ _) (Ev.now _)
theorem l2Ok_ev (neg : Bool) (l : List Int) (s : Int) (h : l.length ≤ 1048576) : Ev (fun k => F58 k neg l s) ((decOk neg l s, ()), (((), (), (), ()), ())) := by
  refine Ev.step 2 (fun k => F58_eq k neg l s) (Ev.bind (l1Ok_ev neg l h) ?_)
  unfold decOk
  cases hb : bOk neg l with
  | false => exact Ev.now _
  | true =>
    obtain ⟨h16, hr, _, _⟩ := bOk_of hb
    simp only [if_true, Bool.true_and]
    refine Ev.bind (l1Long_ev hr (by omega)) ?_
    cases decide (long l ≤ 30) with
    | false => exact Ev.now _
    | true =>
      simp only [if_true, Bool.true_and]
      exact Ev.bind (l1In_ev _ _ _) (Ev.now _)
/-- a decimal in order: its number -/
def num (l : List Int) : Nat := (VI l).toNat
theorem num_spec {l : List Int} (h : InR l) : VI l = (num l : Int) := by
  have := VI_nonneg h
  unfold num
  omega
theorem digs_num {l : List Int} (h : InR l) (t : Trim l) : digs (num l) = l := digs_VI h t
theorem num_pos {neg : Bool} {l : List Int} (h : bOk neg l = true) (hn : neg = true) : 0 < num l := by
  obtain ⟨_, hr, ht, h0⟩ := bOk_of h
  have := VI_pos hr ht (fun e => by have := h0 e; rw [hn] at this; cases this)
  have := num_spec hr
  omega
theorem num_lt {l : List Int} (h : InR l) (hl : l.length ≤ 16) : num l < 10000 ^ 16 := by
  have h1 : VI l < ((10000 ^ l.length : Nat) : Int) := by
    rw [Int.natCast_pow]
    exact VI_lt h
  have h2 := num_spec h
  have h3 : (10000 : Nat) ^ l.length ≤ 10000 ^ 16 := Nat.pow_le_pow_right (by omega) hl
  exact Nat.lt_of_lt_of_le (by omega) h3
theorem at_len {V m : Nat} (hV : V < 10000 ^ 16) (hm : m ≤ 24) : (digs (V * 10 ^ m)).length ≤ 40 := by
  refine digs_len_le ?_
  have h1 : 10 ^ m ≤ 10 ^ 24 := Nat.pow_le_pow_right (by omega) hm
  have h2 : V * 10 ^ m ≤ V * 10 ^ 24 := Nat.mul_le_mul_left V h1
  have h3 : V * 10 ^ 24 < 10000 ^ 16 * 10 ^ 24 := Nat.mul_lt_mul_of_pos_right hV (Nat.pow_pos (by omega))
  have h4 : 10000 ^ 16 * 10 ^ 24 ≤ 10000 ^ 40 := by decide
  omega
theorem at_ev {neg : Bool} {l : List Int} {s m : Nat} (hr : InR l) (hl : l.length ≤ 16) (hm : m ≤ 24) : Ev (fun k => F96 k neg l (s : Int) ((s + m : Nat) : Int)) (((neg, digs (num l * 10 ^ m), ()), ()), (((), (), (), ()), (), ())) := by
  have w : IntKind.i64.wrap (((s + m : Nat) : Int) - (s : Int)) = (m : Int) := by rw [wrap64 (by omega) (by omega)]; omega
  have hmul := mul_ev (a := l) (b := digs (10 ^ m)) hr (digs_spec _).1 (by omega) (by have := ten_len m; omega)
  have e : (VI l * VI (digs (10 ^ m))).toNat = num l * 10 ^ m := by
    rw [VI_digs, num_spec hr]
    rfl
  rw [e] at hmul
  refine Ev.step 2 (fun k => F96_eq k _ _ _ _) (Ev.bind (Ev.step 2 (fun k => F112_eq k _ _) (Ev.now _)) ?_)
  simp only [w]
  exact Ev.bind (ten_ev m (by omega)) (Ev.bind hmul (Ev.now _))
theorem l2At_ev {neg : Bool} {l : List Int} {s m : Nat} (hr : InR l) (hl : l.length ≤ 16) (hm : m ≤ 24) : Ev (fun k => F94 k neg l (s : Int) ((s + m : Nat) : Int)) ((digs (num l * 10 ^ m), ()), (((), (), (), ()), (), ())) := by
  have w : IntKind.i64.wrap (((s + m : Nat) : Int) - (s : Int)) = (m : Int) := by rw [wrap64 (by omega) (by omega)]; omega
  have hmul := l1MulAbs_ev (a := l) (b := digs (10 ^ m)) hr (digs_spec _).1 (by omega) (by have := ten_len m; omega)
  have e : (VI l * VI (digs (10 ^ m))).toNat = num l * 10 ^ m := by
    rw [VI_digs, num_spec hr]
    rfl
  rw [e] at hmul
  refine Ev.step 2 (fun k => F94_eq k _ _ _ _) ?_
  simp only [w]
  exact Ev.bind (l1TenAbs_ev m (by omega)) (Ev.bind hmul (Ev.now _))
/-- a sum with signs -/
def sSum (na : Bool) (A : Nat) (nb : Bool) (B : Nat) : Bool × Nat := if na = nb then (na, A + B) else if B ≤ A then (na, A - B) else (nb, B - A)
theorem cmpI_ge {A B : Nat} : decide (cmpI A B ≥ 0) = decide (B ≤ A) := by
  unfold cmpI
  split
  · rw [decide_eq_false (by omega), decide_eq_false (by omega)]
  · split
    · rw [decide_eq_true (by omega), decide_eq_true (by omega)]
    · rw [decide_eq_true (by omega), decide_eq_true (by omega)]
theorem sAdd_ev {na nb : Bool} {A B : Nat} (la : (digs A).length ≤ 100000) (lb : (digs B).length ≤ 100000) : Ev (fun k => F97 k na (digs A) nb (digs B)) ((((sSum na A nb B).1, digs (sSum na A nb B).2, ()), ()), (((), (), ()), ((), (), ()), ())) := by
  obtain ⟨ra, ta, va⟩ := digs_spec A
  obtain ⟨rb, tb, vb⟩ := digs_spec B
  refine Ev.step 2 (fun k => F97_eq k _ _ _ _) ?_
  unfold sSum
  by_cases hn : na = nb
  · subst hn
    have hadd := add_ev ra rb la lb
    have e : (VI (digs A) + VI (digs B)).toNat = A + B := by rw [va, vb]; omega
    rw [e] at hadd
    simp only [beq_self_eq_true, if_true]
    exact Ev.bind hadd (Ev.now _)
  · have c : (na == nb) = false := by simp [hn]
    simp only [c, hn, Bool.false_eq_true, if_false]
    refine Ev.bind (cmp_ev ra rb ta tb va vb (by omega) (by omega)) ?_
    simp only [cmpI_ge]
    by_cases hle : B ≤ A
    · have hsub := sub_ev ra rb tb la (by rw [va, vb]; omega)
      have e : (VI (digs A) - VI (digs B)).toNat = A - B := by rw [va, vb]; omega
      rw [e] at hsub
      simp only [hle, decide_true, if_true]
      exact Ev.bind hsub (Ev.now _)
    · have hsub := sub_ev rb ra ta lb (by rw [va, vb]; omega)
      have e : (VI (digs B) - VI (digs A)).toNat = B - A := by rw [va, vb]; omega
      rw [e] at hsub
      simp only [hle, decide_false, Bool.false_eq_true, if_false]
      exact Ev.bind hsub (Ev.now _)
theorem sign_ev {neg : Bool} {A : Nat} : Ev (fun k => F99 k neg (digs A)) ((if A = 0 then 0 else if neg = true then -1 else 1, ()), (((), (), ()), ())) := by
  by_cases h : A = 0
  · subst h
    rw [digs_zero, if_pos rfl]
    exact Ev.step 2 (fun k => F99_eq k _ _) (Ev.now _)
  · refine Ev.step 2 (fun k => F99_eq k _ _) ?_
    have c : (((digs A).length : Int) == 0) = false := len0_false (Nat.pos_of_ne_zero (fun e => h (digs_nil.1 (List.eq_nil_of_length_eq_zero e))))
    simp only [c, h, Bool.false_eq_true, if_false]
    cases neg with
    | true => exact Ev.now _
    | false => exact Ev.now _
/-- numbers with signs compared -/
def sCmp (na : Bool) (A : Nat) (nb : Bool) (B : Nat) : Int := if na = nb then if na = true then cmpI B A else cmpI A B else if na = true then -1 else 1
theorem l1Cmp_ev {na nb : Bool} {A B : Nat} (la : (digs A).length ≤ 100000) (lb : (digs B).length ≤ 100000) : Ev (fun k => F95 k na (digs A) nb (digs B)) ((sCmp na A nb B, ()), (((), (), ()), ((), (), ()), ())) := by
  obtain ⟨ra, ta, va⟩ := digs_spec A
  obtain ⟨rb, tb, vb⟩ := digs_spec B
  refine Ev.step 2 (fun k => F95_eq k _ _ _ _) ?_
  unfold sCmp
  cases na with
  | true =>
    cases nb with
    | true => exact Ev.bind (l1CmpAbs_ev rb ra tb ta vb va (by omega)) (Ev.now _)
    | false => exact Ev.now _
  | false =>
    cases nb with
    | true => exact Ev.now _
    | false => exact Ev.bind (l1CmpAbs_ev ra rb ta tb va vb (by omega)) (Ev.now _)
theorem sSum_sCmp {na nb : Bool} {A B : Nat} (ha : na = true → 0 < A) (hb : nb = true → 0 < B) : (if (sSum na A (!nb) B).2 = 0 then 0 else if (sSum na A (!nb) B).1 = true then -1 else 1 : Int) = sCmp na A nb B := by
  unfold sSum sCmp
  cases na with
  | true =>
    have h1 := ha rfl
    cases nb with
    | true =>
      simp only [Bool.not_true, Bool.true_eq_false, if_false, if_true]
      rcases Nat.lt_trichotomy A B with h | h | h
      · rw [if_neg (show ¬ B ≤ A by omega), cmpI_gt h]
        simp only [Bool.false_eq_true, if_false]
        rw [if_neg (by omega)]
      · subst h
        simp [cmpI_eq]
      · rw [if_pos (show B ≤ A by omega), cmpI_lt h]
        simp only [if_true]
        rw [if_neg (by omega)]
    | false =>
      simp only [Bool.not_false, if_true, Bool.true_eq_false, if_false]
      rw [if_neg (by omega)]
  | false =>
    cases nb with
    | true =>
      have h2 := hb rfl
      simp only [Bool.not_true, if_true, Bool.false_eq_true, if_false]
      rw [if_neg (by omega)]
    | false =>
      simp only [Bool.not_false, Bool.false_eq_true, if_false, if_true]
      rcases Nat.lt_trichotomy A B with h | h | h
      · rw [if_neg (show ¬ B ≤ A by omega), cmpI_lt h]
        simp only [if_true]
        rw [if_neg (by omega)]
      · subst h
        simp [cmpI_eq]
      · rw [if_pos (show B ≤ A by omega), cmpI_gt h]
        simp only [Bool.false_eq_true, if_false]
        rw [if_neg (by omega)]
/-- how decimals in order compare -/
def dCmp (n1 : Bool) (l1 : List Int) (s1 : Nat) (n2 : Bool) (l2 : List Int) (s2 : Nat) : Int := sCmp n1 (num l1 * 10 ^ (max s1 s2 - s1)) n2 (num l2 * 10 ^ (max s1 s2 - s2))
section
variable {n1 n2 : Bool} {l1 l2 : List Int} {s1 s2 : Nat}
theorem cmpD_ev (h1 : bOk n1 l1 = true) (h2 : bOk n2 l2 = true) (hs1 : s1 ≤ 12) (hs2 : s2 ≤ 12) : Ev (fun k => F68 k n1 l1 (s1 : Int) n2 l2 (s2 : Int)) ((dCmp n1 l1 s1 n2 l2 s2, ()), (((), (), (), ()), ((), (), (), ()), ())) := by
  obtain ⟨a16, ra, ta, _⟩ := bOk_of h1
  obtain ⟨b16, rb, tb, _⟩ := bOk_of h2
  have em : (if (s2 : Int) > (s1 : Int) then (s2 : Int) else (s1 : Int)) = ((max s1 s2 : Nat) : Int) := by split <;> omega
  have e1 : max s1 s2 = s1 + (max s1 s2 - s1) := by omega
  have e2 : max s1 s2 = s2 + (max s1 s2 - s2) := by omega
  have k1 := at_len (num_lt ra a16) (show max s1 s2 - s1 ≤ 24 by omega)
  have k2 := at_len (num_lt rb b16) (show max s1 s2 - s2 ≤ 24 by omega)
  have a1 := at_ev (neg := n1) (s := s1) (m := max s1 s2 - s1) ra a16 (by omega)
  have a2 := at_ev (neg := n2) (s := s2) (m := max s1 s2 - s2) rb b16 (by omega)
  rw [← e1] at a1
  rw [← e2] at a2
  refine Ev.step 2 (fun k => F68_eq k _ _ _ _ _ _) ?_
  simp only [em]
  refine Ev.bind a1 (Ev.bind a2 (Ev.bind (Ev.step 2 (fun k => F98_eq k _ _) (Ev.now _)) (Ev.bind (sAdd_ev (by omega) (by omega)) (Ev.bind sign_ev ?_))))
  unfold dCmp
  have hp : ∀ m : Nat, 0 < 10 ^ m := fun m => Nat.pow_pos (by omega)
  rw [← sSum_sCmp (fun e => Nat.mul_pos (num_pos h1 e) (hp _)) (fun e => Nat.mul_pos (num_pos h2 e) (hp _))]
  exact Ev.now _
theorem l2Cmp_ev (h1 : bOk n1 l1 = true) (h2 : bOk n2 l2 = true) (hs1 : s1 ≤ 12) (hs2 : s2 ≤ 12) : Ev (fun k => F64 k n1 l1 (s1 : Int) n2 l2 (s2 : Int)) ((dCmp n1 l1 s1 n2 l2 s2, ()), (((), (), (), ()), ((), (), (), ()), ())) := by
  obtain ⟨a16, ra, ta, _⟩ := bOk_of h1
  obtain ⟨b16, rb, tb, _⟩ := bOk_of h2
  have hg : Ev (fun k => F93 k (s1 : Int) (s2 : Int)) ((((max s1 s2 : Nat) : Int), ()), ((), (), ())) := by
    refine Ev.step 2 (fun k => F93_eq k _ _) ?_
    by_cases h : s1 > s2
    · have c : decide ((s1 : Int) > (s2 : Int)) = true := decide_eq_true (by omega)
      have e : max s1 s2 = s1 := by omega
      simp only [c, if_true, e]
      exact Ev.now _
    · have c : decide ((s1 : Int) > (s2 : Int)) = false := decide_eq_false (by omega)
      have e : max s1 s2 = s2 := by omega
      simp only [c, Bool.false_eq_true, if_false, e]
      exact Ev.now _
  have e1 : max s1 s2 = s1 + (max s1 s2 - s1) := by omega
  have e2 : max s1 s2 = s2 + (max s1 s2 - s2) := by omega
  have k1 := at_len (num_lt ra a16) (show max s1 s2 - s1 ≤ 24 by omega)
  have k2 := at_len (num_lt rb b16) (show max s1 s2 - s2 ≤ 24 by omega)
  have a1 := l2At_ev (neg := n1) (s := s1) (m := max s1 s2 - s1) ra a16 (by omega)
  have a2 := l2At_ev (neg := n2) (s := s2) (m := max s1 s2 - s2) rb b16 (by omega)
  rw [← e1] at a1
  rw [← e2] at a2
  exact Ev.step 2 (fun k => F64_eq k _ _ _ _ _ _) (Ev.bind hg (Ev.bind a1 (Ev.bind a2 (Ev.bind (l1Cmp_ev (by omega) (by omega)) (Ev.now _)))))
end
/-! ### the law's helpers -/
theorem toDec_ev (n : Bool) (l : List Int) (s : Int) (h : l.length ≤ 1048576) : Ev (fun k => F31 k n l s) (((n, l, s, ()), ()), (((), (), (), ()), ())) :=
  Ev.step 2 (fun k => F31_eq k n l s) (Ev.bind (Ev.step 2 (fun k => F66_eq k n l) (Ev.bind (toIntS_ev l h) (Ev.now _))) (Ev.now _))
theorem eqDec_ev (n : Bool) (l : List Int) (s : Int) (h : l.length ≤ 1048576) : Ev (fun k => F34 k n l s n l s) ((true, ()), (((), (), (), ()), ((), (), (), ()), ())) := by
  have hb : Ev (fun k => F72 k n l n l) ((true, ()), (((), (), ()), ((), (), ()), ())) := by
    refine Ev.step 2 (fun k => F72_eq k n l n l) ?_
    simp only [beq_self_eq_true, Bool.not_true, Bool.false_eq_true, if_false]
    exact Ev.bind (eqIntS_ev l h) (Ev.now _)
  refine Ev.step 2 (fun k => F34_eq k n l s n l s) (Ev.bind hb ?_)
  simp only [Bool.not_true, Bool.false_eq_true, if_false, bne_self_eq_false]
  exact Ev.now _
theorem szDec_ev (n : Bool) (l : List Int) (s : Int) (hlen : l.length ≤ 9223372036854775807) (b : Int) (h0 : 0 ≤ b) (hb : b ≤ 1048576) : ∃ r, Ev (fun k => F28 k n l s b) r ∧ (r.1.1 < 0 ∨ (0 ≤ r.1.1 ∧ r.1.1 ≤ b ∧ l.length ≤ 1048576)) := by
  obtain ⟨r, h1, h2⟩ := szIntS_ev l hlen b h0 hb
  rcases h2 with h2 | ⟨h2, h3, h4⟩
  · refine ⟨(((-1 : Int), ()), (((), (), (), ()), (), ())), Ev.step 2 (fun k => F28_eq k n l s b) (Ev.bind (Ev.step 2 (fun k => F55_eq k n l b) (Ev.bind h1 (r := (((-1 : Int), ()), (((), (), ()), (), ()))) ?_)) (by
      have c : decide ((-1 : Int) < 0) = true := by decide
      simp only [c, if_true]
      exact Ev.now _)), .inl (by decide : (-1 : Int) < 0)⟩
    simp only [h2, decide_true, if_true]
    exact Ev.now _
  · have hneg : decide (r.1.1 < 0) = false := decide_eq_false (by omega)
    refine ⟨((r.1.1, ()), (((), (), (), ()), (), ())), Ev.step 2 (fun k => F28_eq k n l s b) (Ev.bind (Ev.step 2 (fun k => F55_eq k n l b) (Ev.bind h1 (r := ((r.1.1, ()), (((), (), ()), (), ()))) ?_)) ?_), .inr ⟨h2, h3, h4⟩⟩
    · simp only [hneg, Bool.false_eq_true, if_false]
      exact Ev.now _
    · simp only [hneg, Bool.false_eq_true, if_false]
      exact Ev.now _
end Go.Proofs.YthpgglegdhjihaaGreatDoor.R
end

section
/-! Rf: values in order, types in order. -/
set_option autoImplicit false
set_option linter.unusedSimpArgs false
set_option linter.unusedVariables false
namespace Go.Proofs.YthpgglegdhjihaaGreatDoor.R
open Go.Rf
def bAt (s : ByteArray) (i : Nat) : Int := match s[i]? with
  | some u => (u.toNat : Int)
  | none => 0
theorem byteAt {s : ByteArray} {i : Nat} (h : i < s.size) : ∃ u : UInt8, s[i]? = some u ∧ bAt s i = (u.toNat : Int) := by
  have : s[i]? = some s[i] := getElem?_pos s i h
  exact ⟨s[i], this, by unfold bAt; rw [this]⟩
def figOk (s : ByteArray) : Bool := (List.range s.size).all fun i => within (bAt s i) 32 126
def textOk (s : ByteArray) : Bool := decide ((s.size : Int) ≤ 12) && figOk s
def noText (s : ByteArray) : Bool := s.toList == (⟨#[]⟩ : ByteArray).toList
def decZ (n : Bool) (l : List Int) (s : Int) : Bool := !n && (((l.length : Int) == 0) && (s == 0))
def dayOk (d : Int) : Bool := within d 1 3652059
def spanOk (m d : Int) : Bool := within m (-120000) 120000 && within d (-4000000) 4000000
/-- nothing but what the kind bears -/
def bareOk (k : Int) (y n : Bool) (l : List Int) (s day mo da : Int) (t : ByteArray) : Bool := ((k == 1) || !y) && (((k == 2) || decZ n l s) && (((k == 3) || (day == 0)) && (((k == 4) || ((mo == 0) && (da == 0))) && ((k == 5) || noText t))))
def bodyOk (k : Int) (n : Bool) (l : List Int) (s day mo da : Int) (t : ByteArray) : Bool := if k = 2 then decOk n l s else if k = 3 then dayOk day else if k = 4 then spanOk mo da else if k = 5 then textOk t else true
def vOk (k : Int) (y n : Bool) (l : List Int) (s day mo da : Int) (t : ByteArray) : Bool := within k 0 5 && (bareOk k y n l s day mo da t && bodyOk k n l s day mo da t)
theorem noText_ok {t : ByteArray} (h : noText t = true) : textOk t = true := by
  have h2 : t.data.toList = [] := by
    have h1 := eq_of_beq h
    rw [Lib.toList_data, Lib.toList_data] at h1
    exact h1
  have h3 : t.size = 0 := by
    show t.data.size = 0
    rw [← Array.length_toList, h2]; rfl
  unfold textOk figOk
  rw [h3]
  rfl
section
variable (k0 : Int) (y n : Bool) (l : List Int) (s day mo da : Int) (t : ByteArray)
theorem l4Zero_ev : Ev (fun k => F90 k n l s) ((decZ n l s, ()), (((), (), (), ()), ())) := by
  refine Ev.step 2 (fun k => F90_eq k _ _ _) (Ev.congr (h := fun _ => some ((decZ n l s, ()), (((), (), (), ()), ()))) (fun _ => ?_) (Ev.now _))
  unfold decZ
  cases n <;> cases h : ((l.length : Int) == 0) <;> simp_all
theorem zero_ev : Ev (fun k => F54 k n l s) ((decZ n l s, ()), (((), (), (), ()), ())) := by
  refine Ev.step 2 (fun k => F54_eq k _ _ _) (Ev.congr (h := fun _ => some ((decZ n l s, ()), (((), (), (), ()), ()))) (fun _ => ?_) (Ev.now _))
  unfold decZ
  cases n <;> cases h : ((l.length : Int) == 0) <;> simp_all
theorem isDay_ev : Ev (fun k => F52 k day) ((dayOk day, ()), ((), ())) := Ev.step 2 (fun k => F52_eq k _) (Ev.bind (in_ev day 1 3652059) (Ev.now _))
theorem l3Is_ev : Ev (fun k => F59 k day) ((dayOk day, ()), ((), ())) := Ev.step 2 (fun k => F59_eq k _) (Ev.bind (l1In_ev day 1 3652059) (Ev.now _))
theorem SpanOk_ev : Ev (fun k => F53 k mo da) ((spanOk mo da, ()), (((), (), ()), ())) := by
  refine Ev.step 2 (fun k => F53_eq k _ _) (Ev.bind (in_ev mo _ _) ?_)
  unfold spanOk
  cases within mo (-120000) 120000 with
  | true => exact Ev.bind (in_ev da _ _) (Ev.now _)
  | false => exact Ev.now _
theorem l3SpanOk_ev : Ev (fun k => F60 k mo da) ((spanOk mo da, ()), (((), (), ()), ())) := by
  refine Ev.step 2 (fun k => F60_eq k _ _) (Ev.bind (l1In_ev mo _ _) ?_)
  unfold spanOk
  cases within mo (-120000) 120000 with
  | true => exact Ev.bind (l1In_ev da _ _) (Ev.now _)
  | false => exact Ev.now _
theorem l4Text_ev (hsz : t.size ≤ 9223372036854775807) : Ev (fun k => F61 k t) ((textOk t, ()), ((), ())) := by
  refine Ev.step 2 (fun k => F61_eq k _) ?_
  have h := all_loop (L := fun k i => F61c2 k t i) (n := t.size) (no := ((false, ()), ((), ()))) (yes := ((decide ((t.size : Int) ≤ 12), ()), ((), ()))) (c := fun i => within (bAt t i) 32 126)
    (fun i hi hc => by
      obtain ⟨u, hu, hb⟩ := byteAt hi
      rw [hb] at hc
      refine Ev.step 1 (fun k => F61c2_eq k _ _) ?_
      simp only [lt_true hi, ge0, if_true, Int.toNat_natCast, hu, Option.bind_some]
      unfold within at hc
      by_cases h1 : (u.toNat : Int) < 32
      · simp only [decide_eq_true h1, if_true]; exact Ev.now _
      · have h2 : (u.toNat : Int) > 126 := by
          refine Decidable.by_contra fun h2 => ?_
          rw [decide_eq_true (show (u.toNat : Int) ≥ 32 by omega), decide_eq_true (show (u.toNat : Int) ≤ 126 by omega)] at hc
          cases hc
        simp only [decide_eq_false h1, decide_eq_true h2, Bool.false_eq_true, if_false, if_true]; exact Ev.now _)
    (fun i hi hc r hr => by
      obtain ⟨u, hu, hb⟩ := byteAt hi
      rw [hb] at hc
      unfold within at hc
      rw [Bool.and_eq_true, decide_eq_true_iff, decide_eq_true_iff] at hc
      refine Ev.step 1 (fun k => F61c2_eq k _ _) ?_
      simp only [lt_true hi, ge0, if_true, Int.toNat_natCast, hu, Option.bind_some, decide_eq_false (show ¬ (u.toNat : Int) < 32 by omega), decide_eq_false (show ¬ (u.toNat : Int) > 126 by omega), Bool.false_eq_true, if_false, wrap_succ (show i < 9223372036854775807 by omega)]
      exact hr)
    (by
      refine Ev.step 1 (fun k => F61c2_eq k _ _) ?_
      simp only [lt_false (Nat.le_refl t.size), Bool.false_eq_true, if_false]
      exact Ev.now _)
  have e : (if (List.range t.size).all (fun i => within (bAt t i) 32 126) = true then ((decide ((t.size : Int) ≤ 12), ()), ((), ())) else ((false, ()), ((), ()))) = ((textOk t, ()), ((), ())) := by
    unfold textOk figOk
    cases (List.range t.size).all (fun i => within (bAt t i) 32 126) <;> simp
  rw [e] at h
  exact h
/-- what is left of a value: nothing -/
def restZ (y n : Bool) (l : List Int) (s day mo da : Int) (t : ByteArray) : Bool := !y && (decZ n l s && ((day == 0) && (((mo == 0) && (da == 0)) && noText t)))
theorem okC21 (b : Bool) : Ev (fun k => F25c21 k k0 y n l s day mo da t b) ((b && restZ y n l s day mo da t, ()), (((), (), (), (), (), (), (), (), (), ()), ())) := by
  refine Ev.step 1 (fun k => F25c21_eq k _ _ _ _ _ _ _ _ _ _) ?_
  unfold restZ noText
  cases b with
  | false => simp only [Bool.false_eq_true, if_false, Bool.false_and]; exact Ev.now _
  | true =>
    cases y with
    | true => simp only [Bool.not_true, Bool.false_eq_true, if_false, if_true, Bool.true_and, Bool.false_and]; exact Ev.now _
    | false =>
      simp only [Bool.not_false, if_true, Bool.true_and]
      refine Ev.bind (zero_ev n l s) (Ev.congr (h := fun _ => some ((decZ n l s && ((day == 0) && (((mo == 0) && (da == 0)) && (t.toList == (⟨#[]⟩ : ByteArray).toList))), ()), (((), (), (), (), (), (), (), (), (), ()), ()))) (fun _ => ?_) (Ev.now _))
      cases decZ n l s <;> cases h1 : (day == 0) <;> cases h2 : (mo == 0) <;> cases h3 : (da == 0) <;> simp
theorem okC17 (hsz : t.size ≤ 9000000000000000000) (t3 : ByteArray) : ∀ (m i : Nat) (b : Bool), i + m = t.size → Ev (fun k => F25c17 k k0 y n l s day mo da t k0 y n l s day mo da t3 b (t.size : Int) (i : Int)) (((b && (List.range' i m).all fun i => within (bAt t i) 32 126) && restZ y n l s day mo da t3, ()), (((), (), (), (), (), (), (), (), (), ()), ())) := by
  intro m
  induction m with
  | zero =>
    intro i b hi
    refine Ev.step 1 (fun k => F25c17_eq k _ _ _ _ _ _ _ _ _ _ _ _ _ _ _ _ _ _ _ _ _) ?_
    simp only [lt_false (show t.size ≤ i by omega), Bool.false_eq_true, if_false]
    have := okC21 k0 y n l s day mo da t3 b
    simpa using this
  | succ m ih =>
    intro i b hi
    obtain ⟨u, hu, hb⟩ := byteAt (s := t) (i := i) (by omega)
    refine Ev.step 1 (fun k => F25c17_eq k _ _ _ _ _ _ _ _ _ _ _ _ _ _ _ _ _ _ _ _ _) ?_
    rw [List.range'_succ, List.all_cons]
    cases b with
    | false =>
      have := ih (i + 1) false (by omega)
      rw [Bool.false_and] at this ⊢
      simp only [lt_true (show i < t.size by omega), if_true, Bool.false_eq_true, if_false, wrap_succ (show i < 9223372036854775807 by omega)]
      exact this
    | true =>
      have := ih (i + 1) (within (bAt t i) 32 126) (by omega)
      have hlt : u.toNat < 256 := UInt8.toNat_lt u
      simp only [lt_true (show i < t.size by omega), ge0, if_true, Int.toNat_natCast, hu, Option.bind_some, wrap64 (show -9223372036854775808 ≤ ((u.toNat : Nat) : Int) by omega) (by omega), wrap_succ (show i < 9223372036854775807 by omega), Bool.true_and]
      refine Ev.bind (in_ev _ _ _) ?_
      rw [← hb]
      exact this
theorem ValueOk_ev (hl : l.length ≤ 1048576) (ht : t.size ≤ 1048576) : Ev (fun k => F25 k k0 y n l s day mo da t) ((vOk k0 y n l s day mo da t, ()), (((), (), (), (), (), (), (), (), (), ()), ())) := by
  refine Ev.step 2 (fun k => F25_eq k _ _ _ _ _ _ _ _ _) ?_
  by_cases h0 : k0 = 0
  · subst h0
    have := okC21 0 y n l s day mo da t true
    have e : vOk 0 y n l s day mo da t = (true && restZ y n l s day mo da t) := by simp [vOk, within, bareOk, bodyOk, restZ]
    rw [e]
    simp only [beq_self_eq_true, if_true]
    exact this
  by_cases h1 : k0 = 1
  · subst h1
    have := okC21 1 false n l s day mo da t true
    have e : vOk 1 y n l s day mo da t = (true && restZ false n l s day mo da t) := by simp [vOk, within, bareOk, bodyOk, restZ]
    rw [e]
    simp only [show ((1 : Int) == 0) = false from rfl, beq_self_eq_true, Bool.false_eq_true, if_false, if_true]
    exact this
  by_cases h2 : k0 = 2
  · subst h2
    have := okC21 2 y false [] 0 day mo da t (decOk n l s)
    have e : vOk 2 y n l s day mo da t = (decOk n l s && restZ y false [] 0 day mo da t) := by
      simp [vOk, within, bareOk, bodyOk, restZ, decZ, Bool.and_comm, Bool.and_assoc]
    rw [e]
    simp only [show ((2 : Int) == 0) = false from rfl, show ((2 : Int) == 1) = false from rfl, beq_self_eq_true, Bool.false_eq_true, if_false, if_true]
    exact Ev.bind (DecOk_ev n l s hl) this
  by_cases h3 : k0 = 3
  · subst h3
    have := okC21 3 y n l s 0 mo da t (dayOk day)
    have e : vOk 3 y n l s day mo da t = (dayOk day && restZ y n l s 0 mo da t) := by
      simp [vOk, within, bareOk, bodyOk, restZ, Bool.and_comm, Bool.and_assoc, Bool.and_left_comm]
    rw [e]
    simp only [show ((3 : Int) == 0) = false from rfl, show ((3 : Int) == 1) = false from rfl, show ((3 : Int) == 2) = false from rfl, beq_self_eq_true, Bool.false_eq_true, if_false, if_true]
    exact Ev.bind (isDay_ev day) this
  by_cases h4 : k0 = 4
  · subst h4
    have := okC21 4 y n l s day 0 0 t (spanOk mo da)
    have e : vOk 4 y n l s day mo da t = (spanOk mo da && restZ y n l s day 0 0 t) := by
      simp [vOk, within, bareOk, bodyOk, restZ, Bool.and_comm, Bool.and_assoc, Bool.and_left_comm]
    rw [e]
    simp only [show ((4 : Int) == 0) = false from rfl, show ((4 : Int) == 1) = false from rfl, show ((4 : Int) == 2) = false from rfl, show ((4 : Int) == 3) = false from rfl, beq_self_eq_true, Bool.false_eq_true, if_false, if_true]
    exact Ev.bind (SpanOk_ev mo da) this
  by_cases h5 : k0 = 5
  · subst h5
    have := okC17 5 y n l s day mo da t (by omega) ⟨#[]⟩ t.size 0 (decide ((t.size : Int) ≤ 12)) (by omega)
    rw [← List.range_eq_range'] at this
    have e : vOk 5 y n l s day mo da t = ((decide ((t.size : Int) ≤ 12) && (List.range t.size).all fun i => within (bAt t i) 32 126) && restZ y n l s day mo da ⟨#[]⟩) := by
      have hn : noText ⟨#[]⟩ = true := by unfold noText; exact beq_self_eq_true _
      simp only [vOk, bareOk, bodyOk, restZ, hn, textOk, figOk]
      simp [within, Bool.and_comm, Bool.and_assoc, Bool.and_left_comm]
    rw [e]
    simp only [show ((5 : Int) == 0) = false from rfl, show ((5 : Int) == 1) = false from rfl, show ((5 : Int) == 2) = false from rfl, show ((5 : Int) == 3) = false from rfl, show ((5 : Int) == 4) = false from rfl, beq_self_eq_true, Bool.false_eq_true, if_false, if_true]
    exact this
  · have := okC21 k0 y n l s day mo da t false
    have e : vOk k0 y n l s day mo da t = (false && restZ y n l s day mo da t) := by
      have : within k0 0 5 = false := by unfold within; simp; omega
      simp [vOk, this]
    rw [e]
    simp only [beq_eq_false_iff_ne.2 h0, beq_eq_false_iff_ne.2 h1, beq_eq_false_iff_ne.2 h2, beq_eq_false_iff_ne.2 h3, beq_eq_false_iff_ne.2 h4, beq_eq_false_iff_ne.2 h5, Bool.false_eq_true, if_false]
    exact this
theorem bare_ev : Ev (fun k => F57 k k0 y n l s day mo da t) ((bareOk k0 y n l s day mo da t, ()), (((), (), (), (), (), (), (), (), (), ()), ())) := by
  refine Ev.step 2 (fun k => F57_eq k _ _ _ _ _ _ _ _ _) ?_
  have hz := l4Zero_ev n l s
  unfold bareOk noText
  have fin : ∀ {g : Nat → Option ((Bool × Unit) × ((Unit × Unit × Unit × Unit × Unit × Unit × Unit × Unit × Unit × Unit) × Unit))} {v}, (∀ k, g k = some v) → Ev g v := fun h => Ev.congr h (Ev.now _)
  by_cases h1 : k0 = 1
  · subst h1
    simp only [bne_self_eq_false, Bool.false_eq_true, if_false, show ((1 : Int) != 2) = true from rfl, show ((1 : Int) != 4) = true from rfl, if_true, show ((1 : Int) == 3) = false from rfl, show ((1 : Int) == 5) = false from rfl]
    refine Ev.bind hz (fin fun _ => ?_)
    cases decZ n l s <;> by_cases g1 : mo = 0 <;> by_cases g2 : da = 0 <;> by_cases g3 : day = 0 <;> simp [g1, g2, g3]
  by_cases h2 : k0 = 2
  · subst h2
    simp only [bne_self_eq_false, Bool.false_eq_true, if_false, show ((2 : Int) != 1) = true from rfl, show ((2 : Int) != 4) = true from rfl, if_true, show ((2 : Int) == 3) = false from rfl, show ((2 : Int) == 5) = false from rfl]
    refine fin fun _ => ?_
    cases y <;> by_cases g1 : mo = 0 <;> by_cases g2 : da = 0 <;> by_cases g3 : day = 0 <;> simp [g1, g2, g3]
  have e1 : (k0 != 1) = true := bne_iff_ne.2 h1
  have e2 : (k0 != 2) = true := bne_iff_ne.2 h2
  have f1 : (k0 == 1) = false := beq_eq_false_iff_ne.2 h1
  have f2 : (k0 == 2) = false := beq_eq_false_iff_ne.2 h2
  simp only [e1, e2, f1, f2, if_true]
  cases y with
  | true =>
    simp only [if_true]
    refine fin fun _ => ?_
    simp
  | false =>
    simp only [Bool.false_eq_true, if_false]
    refine Ev.bind hz (fin fun _ => ?_)
    by_cases h4 : k0 = 4
    · subst h4
      cases decZ n l s <;> by_cases g1 : mo = 0 <;> by_cases g2 : da = 0 <;> by_cases g3 : day = 0 <;> simp [g1, g2, g3]
    · by_cases h3 : k0 = 3
      · subst h3
        cases decZ n l s <;> by_cases g1 : mo = 0 <;> by_cases g2 : da = 0 <;> by_cases g3 : day = 0 <;> simp [g1, g2, g3]
      · by_cases h5 : k0 = 5
        · subst h5
          cases decZ n l s <;> by_cases g1 : mo = 0 <;> by_cases g2 : da = 0 <;> by_cases g3 : day = 0 <;> simp [g1, g2, g3]
        · cases decZ n l s <;> by_cases g1 : mo = 0 <;> by_cases g2 : da = 0 <;> by_cases g3 : day = 0 <;> simp [g1, g2, g3, h3, h4, h5]
theorem l4Ok_ev (hl : l.length ≤ 1048576) (ht : t.size ≤ 1048576) : Ev (fun k => F29 k k0 y n l s day mo da t) ((vOk k0 y n l s day mo da t, ()), (((), (), (), (), (), (), (), (), (), ()), ())) := by
  refine Ev.step 2 (fun k => F29_eq k _ _ _ _ _ _ _ _ _) (Ev.bind (l1In_ev k0 0 5) ?_)
  unfold vOk
  cases hw : within k0 0 5 with
  | false => simp only [Bool.not_false, if_true, Bool.false_and]; exact Ev.now _
  | true =>
    simp only [Bool.not_true, Bool.false_eq_true, if_false, Bool.true_and]
    refine Ev.bind (bare_ev k0 y n l s day mo da t) ?_
    cases hb : bareOk k0 y n l s day mo da t with
    | false => simp only [Bool.not_false, if_true, Bool.false_and]; exact Ev.now _
    | true =>
      simp only [Bool.not_true, Bool.false_eq_true, if_false, Bool.true_and]
      unfold bodyOk
      by_cases h2 : k0 = 2
      · simp only [h2, beq_self_eq_true, if_true]
        exact Ev.bind (l2Ok_ev n l s hl) (Ev.now _)
      by_cases h3 : k0 = 3
      · simp only [h3, show ((3 : Int) == 2) = false from rfl, show ¬ ((3 : Int) = 2) by decide, beq_self_eq_true, Bool.false_eq_true, if_false, if_true]
        exact Ev.bind (l3Is_ev day) (Ev.now _)
      by_cases h4 : k0 = 4
      · simp only [h4, show ((4 : Int) == 2) = false from rfl, show ((4 : Int) == 3) = false from rfl, show ¬ ((4 : Int) = 2) by decide, show ¬ ((4 : Int) = 3) by decide, beq_self_eq_true, Bool.false_eq_true, if_false, if_true]
        exact Ev.bind (l3SpanOk_ev mo da) (Ev.now _)
      simp only [beq_eq_false_iff_ne.2 h2, beq_eq_false_iff_ne.2 h3, beq_eq_false_iff_ne.2 h4, h2, h3, h4, Bool.false_eq_true, if_false]
      by_cases h5 : k0 = 5
      · simp only [h5, if_true]
        exact Ev.bind (l4Text_ev t (by omega)) (Ev.now _)
      · have hnt : noText t = true := by
          unfold bareOk at hb
          rw [beq_eq_false_iff_ne.2 h5] at hb
          simp only [Bool.and_eq_true, Bool.false_or] at hb
          exact hb.2.2.2.2
        have htx := l4Text_ev t (by omega)
        rw [noText_ok hnt] at htx
        simp only [h5, if_false]
        exact Ev.bind htx (Ev.now _)
end
end Go.Proofs.YthpgglegdhjihaaGreatDoor.R
end

section
/-! Rf: values: what the laws ask of them; values that fit types. -/
set_option autoImplicit false
set_option linter.unusedSimpArgs false
set_option linter.unusedVariables false
namespace Go.Proofs.YthpgglegdhjihaaGreatDoor.R
open Go.Rf
def tOk (k dg sc : Int) : Bool := if k = 2 then within dg 1 30 && (within sc 0 12 && decide (sc ≤ dg)) else within k 1 5 && ((dg == 0) && (sc == 0))
/-- a value in order fits a type in order -/
def fits (k : Int) (l : List Int) (s tk dg sc : Int) : Bool := if k = 0 then true else if k ≠ tk then false else if k ≠ 2 then true else (s == sc) && decide (long l ≤ dg)
section
variable (k0 : Int) (y n : Bool) (l : List Int) (s day mo da : Int) (t : ByteArray) (tk dg sc : Int)
theorem vOk_num (h : vOk k0 y n l s day mo da t = true) (h2 : k0 = 2) : decOk n l s = true := by
  unfold vOk bodyOk at h
  rw [if_pos h2] at h
  simp only [Bool.and_eq_true] at h
  exact h.2.2
/-- does a value fit? -/
def vFits : Bool := vOk k0 y n l s day mo da t && (tOk tk dg sc && fits k0 l s tk dg sc)
theorem toValue_ev (hl : l.length ≤ 1048576) : Ev (fun k => F10 k k0 y n l s day mo da t) (((k0, y, n, l, s, day, mo, da, t, ()), ()), (((), (), (), (), (), (), (), (), (), ()), ())) :=
  Ev.step 2 (fun k => F10_eq k _ _ _ _ _ _ _ _ _) (Ev.bind (toDec_ev n l s hl) (Ev.bind (Ev.step 2 (fun k => F32_eq k _ _) (Ev.now _)) (Ev.now _)))
theorem eqValue_ev (hl : l.length ≤ 1048576) : Ev (fun k => F12 k k0 y n l s day mo da t k0 y n l s day mo da t) ((true, ()), (((), (), (), (), (), (), (), (), (), ()), ((), (), (), (), (), (), (), (), (), ()), ())) := by
  have hsp : Ev (fun k => F35 k mo da mo da) ((true, ()), (((), (), ()), ((), (), ()), ())) := by
    refine Ev.step 2 (fun k => F35_eq k _ _ _ _) ?_
    simp only [bne_self_eq_false, Bool.false_eq_true, if_false]
    exact Ev.now _
  refine Ev.step 2 (fun k => F12_eq k _ _ _ _ _ _ _ _ _ _ _ _ _ _ _ _ _ _) ?_
  simp only [bne_self_eq_false, beq_self_eq_true, Bool.not_true, Bool.false_eq_true, if_false]
  refine Ev.bind (eqDec_ev n l s hl) ?_
  simp only [Bool.not_true, Bool.false_eq_true, if_false]
  refine Ev.bind hsp ?_
  simp only [Bool.not_true, Bool.false_eq_true, if_false]
  exact Ev.now _
theorem szValue_ev (hlen : l.length ≤ 9223372036854775807) (htl : t.size ≤ 9223372036854775807) (b : Int) (h0 : 0 ≤ b) (hb : b ≤ 1048576) : ∃ r, Ev (fun k => F8 k k0 y n l s day mo da t b) r ∧ (r.1.1 < 0 ∨ (0 ≤ r.1.1 ∧ r.1.1 ≤ b ∧ l.length ≤ 1048576 ∧ t.size ≤ 1048576)) := by
  obtain ⟨q, g1, g2⟩ := szDec_ev n l s hlen b h0 hb
  rcases g2 with g2 | ⟨g2, g3, g4⟩
  · refine ⟨(((-1 : Int), ()), (((), (), (), (), (), (), (), (), (), ()), (), ())), Ev.step 2 (fun k => F8_eq k _ _ _ _ _ _ _ _ _ _) (Ev.bind g1 ?_), .inl (by show (-1 : Int) < 0; omega)⟩
    simp only [g2, decide_true, if_true]
    exact Ev.now _
  · have e : IntKind.i64.wrap (q.1.1 - (t.size : Int)) = q.1.1 - (t.size : Int) := wrap64 (by omega) (by omega)
    by_cases hn : q.1.1 - (t.size : Int) < 0
    · refine ⟨(((-1 : Int), ()), (((), (), (), (), (), (), (), (), (), ()), (), ())), Ev.step 2 (fun k => F8_eq k _ _ _ _ _ _ _ _ _ _) (Ev.bind g1 ?_), .inl (by show (-1 : Int) < 0; omega)⟩
      simp only [decide_eq_false (show ¬ q.1.1 < 0 by omega), Bool.false_eq_true, if_false, e, decide_eq_true hn, if_true]
      exact Ev.now _
    · refine ⟨((q.1.1 - (t.size : Int), ()), (((), (), (), (), (), (), (), (), (), ()), (), ())), Ev.step 2 (fun k => F8_eq k _ _ _ _ _ _ _ _ _ _) (Ev.bind g1 ?_), .inr ⟨by show 0 ≤ q.1.1 - (t.size : Int); omega, by show q.1.1 - (t.size : Int) ≤ b; omega, g4, by omega⟩⟩
      simp only [decide_eq_false (show ¬ q.1.1 < 0 by omega), Bool.false_eq_true, if_false, e, decide_eq_false hn]
      exact Ev.now _
end
end Go.Proofs.YthpgglegdhjihaaGreatDoor.R
end

section
/-! Rf: how values compare. -/
set_option autoImplicit false
set_option linter.unusedSimpArgs false
set_option linter.unusedVariables false
namespace Go.Proofs.YthpgglegdhjihaaGreatDoor.R
open Go.Rf
def zc (x y : Int) : Int := if x < y then -1 else if x > y then 1 else 0
theorem l4Int_ev (x y : Int) : Ev (fun k => F62 k x y) ((zc x y, ()), ((), (), ())) := by
  refine Ev.step 2 (fun k => F62_eq k _ _) ?_
  unfold zc
  by_cases h : x < y
  · simp only [h, decide_true, if_true]; exact Ev.now _
  by_cases h2 : x > y
  · simp only [h, h2, decide_false, decide_true, Bool.false_eq_true, if_false, if_true]; exact Ev.now _
  · simp only [h, h2, decide_false, Bool.false_eq_true, if_false]; exact Ev.now _
theorem cmpInt_ev (x y : Int) : Ev (fun k => F69 k x y) ((zc x y, ()), ((), (), ())) := by
  have e : ∀ x : Int, Ev (fun k => F100 k x) ((false, ()), ((), ())) := fun x => by
    refine Ev.step 2 (fun k => F100_eq k _) ?_
    simp only [bne_self_eq_false]
    exact Ev.now _
  refine Ev.step 2 (fun k => F69_eq k _ _) (Ev.bind (e x) (Ev.bind (e y) ?_))
  unfold zc
  simp only [Bool.false_eq_true, if_false]
  by_cases h : x < y
  · simp only [h, decide_true, if_true]; exact Ev.now _
  by_cases h2 : x > y
  · simp only [h, h2, decide_false, decide_true, Bool.false_eq_true, if_false, if_true]; exact Ev.now _
  · simp only [h, h2, decide_false, Bool.false_eq_true, if_false]; exact Ev.now _
theorem or_ev (x y : Int) : Ev (fun k => F70 k [x, y]) (((if x = 0 then y else x), ()), ((), ())) := by
  refine Ev.step 2 (fun k => F70_eq k _) (Ev.step 1 (fun k => F70c3_eq k _ _ _ _) ?_)
  have n0 : (decide ((0 : Int) < (([x, y] : List Int).length : Int))) = true := rfl
  have z0 : (decide ((0 : Int) ≤ 0)) = true := by decide
  simp only [n0, z0, if_true, show ([x, y] : List Int)[(0 : Int).toNat]? = some x from rfl, Option.bind_some]
  by_cases h : x = 0
  · simp only [h, bne_self_eq_false, Bool.false_eq_true, if_false, if_true]
    refine Ev.step 1 (fun k => F70c3_eq k _ _ _ _) ?_
    have w1 : IntKind.i64.wrap ((0 : Int) + 1) = 1 := by decide
    have n1 : (decide ((1 : Int) < (([0, y] : List Int).length : Int))) = true := rfl
    have z1 : (decide ((0 : Int) ≤ 1)) = true := by decide
    simp only [w1, n1, z1, if_true, show ([0, y] : List Int)[(1 : Int).toNat]? = some y from rfl, Option.bind_some]
    by_cases h2 : y = 0
    · simp only [h2, bne_self_eq_false, Bool.false_eq_true, if_false]
      refine Ev.step 1 (fun k => F70c3_eq k _ _ _ _) ?_
      have w2 : IntKind.i64.wrap ((1 : Int) + 1) = 2 := by decide
      have n2 : (decide ((2 : Int) < (([0, 0] : List Int).length : Int))) = false := by decide
      simp only [w2, n2, Bool.false_eq_true, if_false]
      exact Ev.now _
    · simp only [bne_iff_ne.2 h2, if_true]
      exact Ev.now _
  · simp only [bne_iff_ne.2 h, if_true, h, if_false]
    exact Ev.now _
/-! ### texts -/
def tc (a b : ByteArray) : Int := Lib.compareBytes a.data.toList b.data.toList
theorem less_cmp : ∀ (a b : List UInt8), (Op.bytesLess a b = true ↔ Lib.compareBytes a b = -1) ∧ ((Lib.compareBytes a b = 0) ↔ a = b) ∧ (Lib.compareBytes a b = -1 ∨ Lib.compareBytes a b = 0 ∨ Lib.compareBytes a b = 1)
  | [], [] => by simp [Op.bytesLess, Lib.compareBytes]
  | [], _ :: _ => by simp [Op.bytesLess, Lib.compareBytes]
  | _ :: _, [] => by simp [Op.bytesLess, Lib.compareBytes]
  | x :: a, y :: b => by
    obtain ⟨h1, h2, h3⟩ := less_cmp a b
    unfold Op.bytesLess Lib.compareBytes
    by_cases hxy : x = y
    · subst hxy
      have hlt : ¬ x < x := UInt8.lt_irrefl x
      simp only [hlt, decide_false, beq_self_eq_true, Bool.false_or, Bool.true_and, if_false, List.cons.injEq, true_and]
      exact ⟨h1, h2, h3⟩
    · by_cases hlt : x < y
      · simp [hlt, hxy]
      · have hgt : y < x := UInt8.lt_of_le_of_ne (UInt8.not_lt.1 hlt) (Ne.symm hxy)
        simp [hlt, hgt, hxy]
theorem l4Str_ev (a b : ByteArray) : Ev (fun k => F65 k a b) ((tc a b, ()), ((), (), ())) := by
  obtain ⟨h1, h2, h3⟩ := less_cmp a.data.toList b.data.toList
  refine Ev.step 2 (fun k => F65_eq k _ _) ?_
  rw [Lib.toList_data, Lib.toList_data]
  unfold tc
  cases hl : Op.bytesLess a.data.toList b.data.toList with
  | true =>
    rw [h1.1 hl]
    simp only [if_true]
    exact Ev.now _
  | false =>
    have n1 : Lib.compareBytes a.data.toList b.data.toList ≠ -1 := fun h => by rw [h1.2 h] at hl; cases hl
    by_cases he : a.data.toList = b.data.toList
    · rw [h2.2 he]
      simp only [he, beq_self_eq_true, Bool.or_true, Bool.not_true, Bool.false_eq_true, if_false]
      exact Ev.now _
    · have n0 : Lib.compareBytes a.data.toList b.data.toList ≠ 0 := fun h => he (h2.1 h)
      have e1 : Lib.compareBytes a.data.toList b.data.toList = 1 := by rcases h3 with h | h | h; exact absurd h n1; exact absurd h n0; exact h
      rw [e1]
      simp only [beq_eq_false_iff_ne.2 he, Bool.or_false, Bool.not_false, Bool.false_eq_true, if_false, if_true]
      exact Ev.now _
theorem compare_ev (a b : ByteArray) : Ev (fun k => F71 k a b) ((tc a b, ()), ((), (), ())) :=
  Ev.step 1 (fun k => F71_eq k a b) (Ev.now _)
/-! ### values -/
def bit (b : Bool) : Int := if b then 1 else 0
theorem l4Bit_ev (b : Bool) : Ev (fun k => F63 k b) ((bit b, ()), ((), ())) := by
  refine Ev.step 2 (fun k => F63_eq k _) ?_
  unfold bit
  cases b
  · simp only [Bool.false_eq_true, if_false]; exact Ev.now _
  · simp only [if_true]; exact Ev.now _
theorem truth_ev (b : Bool) : Ev (fun k => F67 k b) ((bit b, ()), ((), ())) := by
  refine Ev.step 2 (fun k => F67_eq k _) ?_
  unfold bit
  cases b
  · simp only [Bool.false_eq_true, if_false]; exact Ev.now _
  · simp only [if_true]; exact Ev.now _
theorem bit_sub (b c : Bool) : IntKind.i64.wrap (bit b - bit c) = zc (bit b) (bit c) := by cases b <;> cases c <;> decide
/-- how two values of one kind compare -/
def vc (k0 : Int) (y1 n1 : Bool) (l1 : List Int) (s1 d1 m1 a1 : Int) (t1 : ByteArray) (y2 n2 : Bool) (l2 : List Int) (s2 d2 m2 a2 : Int) (t2 : ByteArray) : Int :=
  if k0 = 1 then zc (bit y1) (bit y2) else if k0 = 2 then dCmp n1 l1 s1.toNat n2 l2 s2.toNat else if k0 = 3 then zc d1 d2 else if k0 = 4 then (if m1 = m2 then zc a1 a2 else zc m1 m2) else tc t1 t2
def vo (k1 : Int) (y1 n1 : Bool) (l1 : List Int) (s1 d1 m1 a1 : Int) (t1 : ByteArray) (k2 : Int) (y2 n2 : Bool) (l2 : List Int) (s2 d2 m2 a2 : Int) (t2 : ByteArray) : Int :=
  if k1 = k2 then vc k1 y1 n1 l1 s1 d1 m1 a1 t1 y2 n2 l2 s2 d2 m2 a2 t2 else zc k1 k2
theorem zc_zero {x y : Int} : zc x y = 0 ↔ x = y := by
  unfold zc
  split
  · constructor <;> intro h <;> omega
  · split <;> constructor <;> intro h <;> omega
section
variable (k0 : Int) (y1 n1 : Bool) (l1 : List Int) (s1 d1 m1 a1 : Int) (t1 : ByteArray) (y2 n2 : Bool) (l2 : List Int) (s2 d2 m2 a2 : Int) (t2 : ByteArray)
theorem vOk_kind {k0 : Int} {y n : Bool} {l : List Int} {s day mo da : Int} {t : ByteArray} (h : vOk k0 y n l s day mo da t = true) : 0 ≤ k0 ∧ k0 ≤ 5 := by
  unfold vOk within at h
  simp only [Bool.and_eq_true, decide_eq_true_iff] at h
  exact ⟨h.1.1, h.1.2⟩
theorem noText_nil {t : ByteArray} (h : noText t = true) : t.data.toList = [] := by
  have h1 := eq_of_beq h
  rw [Lib.toList_data, Lib.toList_data] at h1
  exact h1
theorem vOk_noText {k0 : Int} {y n : Bool} {l : List Int} {s day mo da : Int} {t : ByteArray} (h : vOk k0 y n l s day mo da t = true) (h5 : k0 ≠ 5) : t.data.toList = [] := by
  unfold vOk bareOk at h
  rw [beq_eq_false_iff_ne.2 h5] at h
  simp only [Bool.and_eq_true, Bool.false_or] at h
  exact noText_nil h.2.1.2.2.2.2
theorem l4Cmp_ev (h1 : vOk k0 y1 n1 l1 s1 d1 m1 a1 t1 = true) (h2 : vOk k0 y2 n2 l2 s2 d2 m2 a2 t2 = true) : Ev (fun k => F30 k k0 y1 n1 l1 s1 d1 m1 a1 t1 k0 y2 n2 l2 s2 d2 m2 a2 t2) ((vc k0 y1 n1 l1 s1 d1 m1 a1 t1 y2 n2 l2 s2 d2 m2 a2 t2, ()), (((), (), (), (), (), (), (), (), (), ()), ((), (), (), (), (), (), (), (), (), ()), ())) := by
  refine Ev.step 2 (fun k => F30_eq k _ _ _ _ _ _ _ _ _ _ _ _ _ _ _ _ _ _) ?_
  unfold vc
  by_cases g1 : k0 = 1
  · simp only [g1, beq_self_eq_true, if_true]
    exact Ev.bind (l4Bit_ev _) (Ev.bind (l4Bit_ev _) (Ev.bind (l4Int_ev _ _) (Ev.now _)))
  simp only [g1, beq_eq_false_iff_ne.2 g1, Bool.false_eq_true, if_false]
  by_cases g2 : k0 = 2
  · obtain ⟨b1, _, u1, rfl, hu1⟩ := decOk_of (vOk_num _ _ _ _ _ _ _ _ _ h1 g2)
    obtain ⟨b2, _, u2, rfl, hu2⟩ := decOk_of (vOk_num _ _ _ _ _ _ _ _ _ h2 g2)
    simp only [g2, beq_self_eq_true, if_true, Int.toNat_natCast]
    exact Ev.bind (l2Cmp_ev b1 b2 hu1 hu2) (Ev.now _)
  simp only [g2, beq_eq_false_iff_ne.2 g2, Bool.false_eq_true, if_false]
  by_cases g3 : k0 = 3
  · simp only [g3, beq_self_eq_true, if_true]
    exact Ev.bind (l4Int_ev _ _) (Ev.now _)
  simp only [g3, beq_eq_false_iff_ne.2 g3, Bool.false_eq_true, if_false]
  by_cases g4 : k0 = 4
  · simp only [g4, beq_self_eq_true, if_true]
    by_cases hm : m1 = m2
    · simp only [hm, bne_self_eq_false, Bool.false_eq_true, if_false, if_true]
      exact Ev.bind (l4Int_ev _ _) (Ev.now _)
    · simp only [bne_iff_ne.2 hm, if_true, hm, if_false]
      exact Ev.bind (l4Int_ev _ _) (Ev.now _)
  simp only [g4, beq_eq_false_iff_ne.2 g4, Bool.false_eq_true, if_false]
  exact Ev.bind (l4Str_ev _ _) (Ev.now _)
theorem vcmp_ev (h1 : vOk k0 y1 n1 l1 s1 d1 m1 a1 t1 = true) (h2 : vOk k0 y2 n2 l2 s2 d2 m2 a2 t2 = true) : Ev (fun k => F33 k k0 y1 n1 l1 s1 d1 m1 a1 t1 k0 y2 n2 l2 s2 d2 m2 a2 t2) ((vc k0 y1 n1 l1 s1 d1 m1 a1 t1 y2 n2 l2 s2 d2 m2 a2 t2, ()), (((), (), (), (), (), (), (), (), (), ()), ((), (), (), (), (), (), (), (), (), ()), ())) := by
  refine Ev.step 2 (fun k => F33_eq k _ _ _ _ _ _ _ _ _ _ _ _ _ _ _ _ _ _) ?_
  unfold vc
  by_cases g1 : k0 = 1
  · simp only [g1, beq_self_eq_true, if_true]
    refine Ev.bind (truth_ev _) (Ev.bind (truth_ev _) ?_)
    simp only [bit_sub]
    exact Ev.now _
  simp only [g1, beq_eq_false_iff_ne.2 g1, Bool.false_eq_true, if_false]
  by_cases g2 : k0 = 2
  · obtain ⟨b1, _, u1, rfl, hu1⟩ := decOk_of (vOk_num _ _ _ _ _ _ _ _ _ h1 g2)
    obtain ⟨b2, _, u2, rfl, hu2⟩ := decOk_of (vOk_num _ _ _ _ _ _ _ _ _ h2 g2)
    simp only [g2, beq_self_eq_true, if_true, Int.toNat_natCast]
    exact Ev.bind (cmpD_ev b1 b2 hu1 hu2) (Ev.now _)
  simp only [g2, beq_eq_false_iff_ne.2 g2, Bool.false_eq_true, if_false]
  by_cases g3 : k0 = 3
  · simp only [g3, beq_self_eq_true, if_true]
    exact Ev.bind (cmpInt_ev _ _) (Ev.now _)
  simp only [g3, beq_eq_false_iff_ne.2 g3, Bool.false_eq_true, if_false]
  by_cases g4 : k0 = 4
  · simp only [g4, beq_self_eq_true, if_true]
    refine Ev.bind (cmpInt_ev _ _) (Ev.bind (cmpInt_ev _ _) (Ev.bind (or_ev _ _) ?_))
    by_cases hm : m1 = m2
    · subst hm
      simp only [zc_zero.2 rfl, if_true]
      exact Ev.now _
    · have : zc m1 m2 ≠ 0 := fun h => hm (zc_zero.1 h)
      simp only [this, hm, if_false]
      exact Ev.now _
  simp only [g4, beq_eq_false_iff_ne.2 g4, Bool.false_eq_true, if_false]
  by_cases g5 : k0 = 5
  · simp only [g5, beq_self_eq_true, if_true]
    exact Ev.bind (compare_ev _ _) (Ev.now _)
  · have e : tc t1 t2 = 0 := by
      unfold tc
      rw [vOk_noText h1 g5, vOk_noText h2 g5]
      rfl
    simp only [beq_eq_false_iff_ne.2 g5, Bool.false_eq_true, if_false, e]
    exact Ev.now _
end
section
variable (k1 : Int) (y1 n1 : Bool) (l1 : List Int) (s1 d1 m1 a1 : Int) (t1 : ByteArray) (k2 : Int) (y2 n2 : Bool) (l2 : List Int) (s2 d2 m2 a2 : Int) (t2 : ByteArray)
theorem l4Order_ev (h1 : vOk k1 y1 n1 l1 s1 d1 m1 a1 t1 = true) (h2 : vOk k2 y2 n2 l2 s2 d2 m2 a2 t2 = true) : Ev (fun k => F36 k k1 y1 n1 l1 s1 d1 m1 a1 t1 k2 y2 n2 l2 s2 d2 m2 a2 t2) ((vo k1 y1 n1 l1 s1 d1 m1 a1 t1 k2 y2 n2 l2 s2 d2 m2 a2 t2, ()), (((), (), (), (), (), (), (), (), (), ()), ((), (), (), (), (), (), (), (), (), ()), ())) := by
  refine Ev.step 2 (fun k => F36_eq k _ _ _ _ _ _ _ _ _ _ _ _ _ _ _ _ _ _) ?_
  unfold vo
  by_cases h : k1 = k2
  · subst h
    simp only [bne_self_eq_false, Bool.false_eq_true, if_false, if_true]
    exact Ev.bind (l4Cmp_ev _ _ _ _ _ _ _ _ _ _ _ _ _ _ _ _ _ h1 h2) (Ev.now _)
  · simp only [bne_iff_ne.2 h, if_true, h, if_false]
    exact Ev.bind (l4Int_ev _ _) (Ev.now _)
theorem order_ev (h1 : vOk k1 y1 n1 l1 s1 d1 m1 a1 t1 = true) (h2 : vOk k2 y2 n2 l2 s2 d2 m2 a2 t2 = true) : Ev (fun k => F37 k k1 y1 n1 l1 s1 d1 m1 a1 t1 k2 y2 n2 l2 s2 d2 m2 a2 t2) ((vo k1 y1 n1 l1 s1 d1 m1 a1 t1 k2 y2 n2 l2 s2 d2 m2 a2 t2, ()), (((), (), (), (), (), (), (), (), (), ()), ((), (), (), (), (), (), (), (), (), ()), ())) := by
  refine Ev.step 2 (fun k => F37_eq k _ _ _ _ _ _ _ _ _ _ _ _ _ _ _ _ _ _) ?_
  unfold vo
  by_cases h : k1 = k2
  · subst h
    simp only [bne_self_eq_false, Bool.false_eq_true, if_false, if_true]
    exact Ev.bind (vcmp_ev _ _ _ _ _ _ _ _ _ _ _ _ _ _ _ _ _ h1 h2) (Ev.now _)
  · simp only [bne_iff_ne.2 h, if_true, h, if_false]
    exact Ev.bind (cmpInt_ev _ _) (Ev.now _)
/-- what ValueOrder hands back -/
def vOrd : Int := if vOk k1 y1 n1 l1 s1 d1 m1 a1 t1 && vOk k2 y2 n2 l2 s2 d2 m2 a2 t2 then vo k1 y1 n1 l1 s1 d1 m1 a1 t1 k2 y2 n2 l2 s2 d2 m2 a2 t2 else 2
/-- can ValueCmp tell? -/
def vCan : Bool := vOk k1 y1 n1 l1 s1 d1 m1 a1 t1 && vOk k2 y2 n2 l2 s2 d2 m2 a2 t2 && (k1 != 0 && k1 == k2)
def vCmp : Int := if vCan k1 y1 n1 l1 s1 d1 m1 a1 t1 k2 y2 n2 l2 s2 d2 m2 a2 t2 then vc k1 y1 n1 l1 s1 d1 m1 a1 t1 y2 n2 l2 s2 d2 m2 a2 t2 else 0
variable (z1 : l1.length ≤ 1048576) (x1 : t1.size ≤ 1048576) (z2 : l2.length ≤ 1048576) (x2 : t2.size ≤ 1048576)
include z1 x1 z2 x2
theorem ValueOrder_sp : Ev (fun k => F13 k k1 y1 n1 l1 s1 d1 m1 a1 t1 k2 y2 n2 l2 s2 d2 m2 a2 t2) ((vOrd k1 y1 n1 l1 s1 d1 m1 a1 t1 k2 y2 n2 l2 s2 d2 m2 a2 t2, ()), (((), (), (), (), (), (), (), (), (), ()), ((), (), (), (), (), (), (), (), (), ()), ())) := by
  refine Ev.step 2 (fun k => F13_eq k _ _ _ _ _ _ _ _ _ _ _ _ _ _ _ _ _ _) (Ev.bind (l4Ok_ev k1 y1 n1 l1 s1 d1 m1 a1 t1 z1 x1) ?_)
  unfold vOrd
  cases c1 : vOk k1 y1 n1 l1 s1 d1 m1 a1 t1 with
  | false => simp only [Bool.not_false, if_true, Bool.false_and, Bool.false_eq_true, if_false]; exact Ev.now _
  | true =>
    simp only [Bool.not_true, Bool.false_eq_true, if_false, Bool.true_and]
    refine Ev.bind (l4Ok_ev k2 y2 n2 l2 s2 d2 m2 a2 t2 z2 x2) ?_
    cases c2 : vOk k2 y2 n2 l2 s2 d2 m2 a2 t2 with
    | false => simp only [Bool.not_false, if_true, Bool.false_eq_true, if_false]; exact Ev.now _
    | true =>
      simp only [Bool.not_true, Bool.false_eq_true, if_false, if_true]
      exact Ev.bind (l4Order_ev _ _ _ _ _ _ _ _ _ _ _ _ _ _ _ _ _ _ c1 c2) (Ev.now _)
theorem ValueOrder_im : Ev (fun k => F14 k k1 y1 n1 l1 s1 d1 m1 a1 t1 k2 y2 n2 l2 s2 d2 m2 a2 t2) ((vOrd k1 y1 n1 l1 s1 d1 m1 a1 t1 k2 y2 n2 l2 s2 d2 m2 a2 t2, ()), (((), (), (), (), (), (), (), (), (), ()), ((), (), (), (), (), (), (), (), (), ()), ())) := by
  refine Ev.step 2 (fun k => F14_eq k _ _ _ _ _ _ _ _ _ _ _ _ _ _ _ _ _ _) (Ev.bind (ValueOk_ev k1 y1 n1 l1 s1 d1 m1 a1 t1 z1 x1) ?_)
  unfold vOrd
  cases c1 : vOk k1 y1 n1 l1 s1 d1 m1 a1 t1 with
  | false => simp only [Bool.not_false, if_true, Bool.false_and, Bool.false_eq_true, if_false]; exact Ev.now _
  | true =>
    simp only [Bool.not_true, Bool.false_eq_true, if_false, Bool.true_and]
    refine Ev.bind (ValueOk_ev k2 y2 n2 l2 s2 d2 m2 a2 t2 z2 x2) ?_
    cases c2 : vOk k2 y2 n2 l2 s2 d2 m2 a2 t2 with
    | false => simp only [Bool.not_false, if_true, Bool.false_eq_true, if_false]; exact Ev.now _
    | true =>
      simp only [Bool.not_true, Bool.false_eq_true, if_false, if_true]
      exact Ev.bind (order_ev _ _ _ _ _ _ _ _ _ _ _ _ _ _ _ _ _ _ c1 c2) (Ev.now _)
theorem ValueCmp_sp : Ev (fun k => F9 k k1 y1 n1 l1 s1 d1 m1 a1 t1 k2 y2 n2 l2 s2 d2 m2 a2 t2) ((vCmp k1 y1 n1 l1 s1 d1 m1 a1 t1 k2 y2 n2 l2 s2 d2 m2 a2 t2, vCan k1 y1 n1 l1 s1 d1 m1 a1 t1 k2 y2 n2 l2 s2 d2 m2 a2 t2, ()), (((), (), (), (), (), (), (), (), (), ()), ((), (), (), (), (), (), (), (), (), ()), ())) := by
  refine Ev.step 2 (fun k => F9_eq k _ _ _ _ _ _ _ _ _ _ _ _ _ _ _ _ _ _) (Ev.bind (l4Ok_ev k1 y1 n1 l1 s1 d1 m1 a1 t1 z1 x1) ?_)
  unfold vCmp vCan
  cases c1 : vOk k1 y1 n1 l1 s1 d1 m1 a1 t1 with
  | false => simp only [Bool.not_false, if_true, Bool.false_and, Bool.false_eq_true, if_false]; exact Ev.now _
  | true =>
    simp only [Bool.not_true, Bool.false_eq_true, if_false, Bool.true_and]
    refine Ev.bind (l4Ok_ev k2 y2 n2 l2 s2 d2 m2 a2 t2 z2 x2) ?_
    cases c2 : vOk k2 y2 n2 l2 s2 d2 m2 a2 t2 with
    | false => simp only [Bool.not_false, if_true, Bool.false_and, Bool.false_eq_true, if_false]; exact Ev.now _
    | true =>
      by_cases h0 : k1 = 0
      · simp only [h0, Bool.not_true, Bool.false_eq_true, if_false, if_true, Bool.true_and, beq_self_eq_true, bne_self_eq_false, Bool.false_and]; exact Ev.now _
      by_cases h : k1 = k2
      · subst h
        simp only [beq_eq_false_iff_ne.2 h0, bne_iff_ne.2 h0, beq_self_eq_true, bne_self_eq_false, Bool.not_true, Bool.false_eq_true, if_false, Bool.true_and, if_true]
        exact Ev.bind (l4Cmp_ev _ _ _ _ _ _ _ _ _ _ _ _ _ _ _ _ _ c1 c2) (Ev.now _)
      · simp only [beq_eq_false_iff_ne.2 h0, bne_iff_ne.2 h0, beq_eq_false_iff_ne.2 h, bne_iff_ne.2 h, Bool.not_true, Bool.false_eq_true, if_false, Bool.true_and, if_true]
        exact Ev.now _
theorem ValueCmp_im : Ev (fun k => F11 k k1 y1 n1 l1 s1 d1 m1 a1 t1 k2 y2 n2 l2 s2 d2 m2 a2 t2) ((vCmp k1 y1 n1 l1 s1 d1 m1 a1 t1 k2 y2 n2 l2 s2 d2 m2 a2 t2, vCan k1 y1 n1 l1 s1 d1 m1 a1 t1 k2 y2 n2 l2 s2 d2 m2 a2 t2, ()), (((), (), (), (), (), (), (), (), (), ()), ((), (), (), (), (), (), (), (), (), ()), ())) := by
  refine Ev.step 2 (fun k => F11_eq k _ _ _ _ _ _ _ _ _ _ _ _ _ _ _ _ _ _) (Ev.bind (ValueOk_ev k1 y1 n1 l1 s1 d1 m1 a1 t1 z1 x1) ?_)
  unfold vCmp vCan
  cases c1 : vOk k1 y1 n1 l1 s1 d1 m1 a1 t1 with
  | false => simp only [Bool.not_false, if_true, Bool.false_and, Bool.false_eq_true, if_false]; exact Ev.now _
  | true =>
    simp only [Bool.not_true, Bool.false_eq_true, if_false, Bool.true_and]
    refine Ev.bind (ValueOk_ev k2 y2 n2 l2 s2 d2 m2 a2 t2 z2 x2) ?_
    cases c2 : vOk k2 y2 n2 l2 s2 d2 m2 a2 t2 with
    | false => simp only [Bool.not_false, if_true, Bool.false_and, Bool.false_eq_true, if_false]; exact Ev.now _
    | true =>
      by_cases h0 : k1 = 0
      · simp only [h0, Bool.not_true, Bool.false_eq_true, if_false, if_true, Bool.true_and, beq_self_eq_true, bne_self_eq_false, Bool.false_and]; exact Ev.now _
      by_cases h : k1 = k2
      · subst h
        simp only [beq_eq_false_iff_ne.2 h0, bne_iff_ne.2 h0, beq_self_eq_true, bne_self_eq_false, Bool.not_true, Bool.false_eq_true, if_false, Bool.true_and, if_true]
        exact Ev.bind (vcmp_ev _ _ _ _ _ _ _ _ _ _ _ _ _ _ _ _ _ c1 c2) (Ev.now _)
      · simp only [beq_eq_false_iff_ne.2 h0, bne_iff_ne.2 h0, beq_eq_false_iff_ne.2 h, bne_iff_ne.2 h, Bool.not_true, Bool.false_eq_true, if_false, Bool.true_and, if_true]
        exact Ev.now _
end
end Go.Proofs.YthpgglegdhjihaaGreatDoor.R
end

section
/-! Rf, decimals: added; fresh memory. -/
set_option autoImplicit false
set_option linter.unusedSimpArgs false
namespace Go.Proofs.YthpgglegdhjihaaGreatDoor.R
open Go.Rf
theorem VI_take_succ' {l : List Int} {i : Nat} : VI (l.take (i + 1)) = VI (l.take i) + l.getD i 0 * 10000 ^ i := by
  rcases Nat.lt_or_ge i l.length with h | h
  · exact VI_take_succ h
  · rw [List.take_of_length_le h, List.take_of_length_le (by omega), List.getD_eq_getElem?_getD, List.getElem?_eq_none h]
    simp
theorem getD0 {l : List Int} (h : InR l) (i : Nat) : 0 ≤ l.getD i 0 ∧ l.getD i 0 ≤ 9999 := by
  rcases Nat.lt_or_ge i l.length with h1 | h1
  · exact h.at h1
  · rw [List.getD_eq_getElem?_getD, List.getElem?_eq_none h1]
    exact ⟨Int.le_refl _, by decide⟩
theorem inrSnoc {l : List Int} {d : Int} (h : InR l) (hd : 0 ≤ d ∧ d ≤ 9999) : InR (l ++ [d]) := fun x hx => by
  rcases List.mem_append.1 hx with hx | hx
  · exact h x hx
  · rw [List.mem_singleton.1 hx]
    exact hd
theorem VI_snoc (l : List Int) (d : Int) : VI (l ++ [d]) = VI l + d * 10000 ^ l.length := by
  rw [VI_append]
  show VI l + 10000 ^ l.length * (d + 10000 * 0) = _
  grind
section
variable {a b : List Int}
end
def made (neg : Bool) (n : Nat) (s : Int) : (Bool × List Int × Int × Unit) × Int × Unit := if long (digs n) > 30 then ((false, [], 0, ()), 3, ()) else ((neg && decide (((digs n).length : Int) > 0), digs n, s, ()), 0, ())
theorem figs_ge : ∀ {l : List Int}, InR l → l ≠ [] → 4 * l.length ≤ (figs l).length + 4
  | [], _, h => absurd rfl h
  | [d], _, _ => by simp
  | d :: e :: l, h, _ => by
    have h1 := figs_ge h.cons.2 (by simp)
    have h2 := fig4_len h.cons.1
    rw [figs, List.length_append, h2, List.length_cons]
    omega
theorem long_small {l : List Int} (h : InR l) (hl : ¬ long l > 30) : l.length ≤ 16 := by
  unfold long at hl
  by_cases h0 : l.length = 0
  · omega
  · rw [if_neg h0, textL_pos (fun e => h0 (by rw [e]; rfl)), bytes_size] at hl
    have := figs_ge h (fun e => h0 (by rw [e]; rfl))
    omega
theorem sSum_lt {na nb : Bool} {A B C : Nat} (ha : A < C) (hb : B < C) : (sSum na A nb B).2 < 2 * C := by
  unfold sSum
  split
  · show A + B < _
    omega
  · split
    · show A - B < _
      omega
    · show B - A < _
      omega
theorem at_lt {V m : Nat} (hV : V < 10000 ^ 16) (hm : m ≤ 24) : V * 10 ^ m < 10000 ^ 40 := by
  have h1 : 10 ^ m ≤ 10 ^ 24 := Nat.pow_le_pow_right (by omega) hm
  have h2 : V * 10 ^ m ≤ V * 10 ^ 24 := Nat.mul_le_mul_left V h1
  have h3 : V * 10 ^ 24 < 10000 ^ 16 * 10 ^ 24 := Nat.mul_lt_mul_of_pos_right hV (Nat.pow_pos (by omega))
  have h4 : 10000 ^ 16 * 10 ^ 24 ≤ 10000 ^ 40 := by decide
  omega
theorem sum_len {na nb : Bool} {A B : Nat} (ha : A < 10000 ^ 40) (hb : B < 10000 ^ 40) : (digs (sSum na A nb B).2).length ≤ 41 := by
  refine digs_len_le ?_
  have h1 := sSum_lt (na := na) (nb := nb) ha hb
  have h2 : 2 * 10000 ^ 40 ≤ 10000 ^ 41 := by
    rw [Nat.pow_succ]
    have : 0 < 10000 ^ 40 := Nat.pow_pos (by omega)
    omega
  omega
section
variable {n1 n2 : Bool} {l1 l2 : List Int} {s1 s2 : Nat}
end
/-! ### marks -/
def marks (b : Int) (l : List Int) : List Int := (List.range l.length).map fun (i : Nat) => b + (i : Int)
theorem marks_len (b : Int) (l : List Int) : (marks b l).length = l.length := by simp [marks]
theorem marks_at {b : Int} {l : List Int} {i : Nat} (h : i < l.length) : (marks b l).getD i 0 = b + i := by
  rw [List.getD_eq_getElem?_getD]
  unfold marks
  rw [List.getElem?_map, List.getElem?_range h]
  rfl
end Go.Proofs.YthpgglegdhjihaaGreatDoor.R
end

section
/-! Rf: division of limbs: both divisions come to the quotient and the rest. -/
set_option autoImplicit false
set_option linter.unusedSimpArgs false
set_option linter.unusedVariables false
namespace Go.Proofs.YthpgglegdhjihaaGreatDoor.R
open Go.Rf
theorem u64_small {x : Int} (h0 : 0 ≤ x) (h1 : x ≤ 9999) : IntKind.u64.wrap x = x := by
  unfold IntKind.wrap
  simp [IntKind.bits, IntKind.signed]
  omega
theorem mid_eq {lo hi : Nat} (h : hi ≤ 10000) (hl : lo ≤ 10000) : IntKind.i64.wrap ((IntKind.i64.wrap ((IntKind.i64.wrap ((lo : Int) + (hi : Int))) + (1 : Int))).tdiv (2 : Int)) = (((lo + hi + 1) / 2 : Nat) : Int) := by
  rw [wrap64 (n := (lo : Int) + (hi : Int)) (by omega) (by omega), wrap64 (n := (lo : Int) + (hi : Int) + 1) (by omega) (by omega), Int.tdiv_eq_ediv_of_nonneg (by omega), wrap64 (by omega) (by omega)]
  omega
theorem mid_eq0 {lo hi : Nat} (h : hi ≤ 10000) (hl : lo ≤ 10000) : IntKind.i64.wrap ((IntKind.i64.wrap ((lo : Int) + (hi : Int))).tdiv (2 : Int)) = (((lo + hi) / 2 : Nat) : Int) := by
  rw [wrap64 (n := (lo : Int) + (hi : Int)) (by omega) (by omega), Int.tdiv_eq_ediv_of_nonneg (by omega), wrap64 (by omega) (by omega)]
  omega
theorem digs_InR (n : Nat) : InR (digs n) := (digs_spec n).1
theorem digs_Trim (n : Nat) : Trim (digs n) := (digs_spec n).2.1
theorem InR.one {d : Int} (h : 0 ≤ d ∧ d ≤ 9999) : InR [d] := InR.mk h InR.nil
theorem VI_one (d : Int) : VI [d] = d := by
  show d + 10000 * 0 = d
  omega
theorem cmpI_le {a b : Nat} : decide (cmpI a b ≤ 0) = decide (a ≤ b) := by
  unfold cmpI
  split
  · rw [decide_eq_true (by omega), decide_eq_true (by omega)]
  · split
    · rw [decide_eq_true (by omega), decide_eq_true (by omega)]
    · rw [decide_eq_false (by omega), decide_eq_false (by omega)]
section
variable {b : List Int} {B X : Nat}
theorem mulN (hb : InR b) (lb : b.length ≤ 1000) (hB : VI b = (B : Int)) {n : Nat} (hn : n ≤ 9999) : Ev (fun k => F113 k b (digs n)) ((digs (B * n), ()), ((), (), ())) := by
  have := mul_ev hb (digs_InR n) (by omega) (Nat.le_trans (digs_len_le (m := 1) (by omega)) (by omega))
  rw [hB, VI_digs, show ((B : Int) * (n : Int)).toNat = B * n by rw [← Int.natCast_mul]; rfl] at this
  exact this
theorem l1MulN (hb : InR b) (lb : b.length ≤ 1000) (hB : VI b = (B : Int)) {c : List Int} {n : Nat} (hc : InR c) (lc : c.length ≤ 1) (hn : VI c = (n : Int)) : Ev (fun k => F109 k b c) ((digs (B * n), ()), ((), (), ())) := by
  have := l1MulAbs_ev hb hc (by omega) (by omega)
  rw [hB, hn, show ((B : Int) * (n : Int)).toNat = B * n by rw [← Int.natCast_mul]; rfl] at this
  exact this
theorem BN_len (hb : InR b) (lb : b.length ≤ 1000) (hB : VI b = (B : Int)) {n : Nat} (hn : n ≤ 10000) : (digs (B * n)).length ≤ 1001 := by
  have h1 := VI_lt hb
  rw [hB] at h1
  have h2 : B < 10000 ^ b.length := by
    have : ((B : Nat) : Int) < ((10000 ^ b.length : Nat) : Int) := by rw [Int.natCast_pow]; exact h1
    omega
  have h3 : B * n < 10000 ^ (b.length + 1) := by
    rw [Nat.pow_succ]
    exact Nat.lt_of_le_of_lt (Nat.mul_le_mul_left B hn) (Nat.mul_lt_mul_of_pos_right h2 (by omega))
  have := digs_len_le h3
  omega
theorem cmpN (hb : InR b) (lb : b.length ≤ 1000) (hB : VI b = (B : Int)) (lX : (digs X).length ≤ 2000) {n : Nat} (hn : n ≤ 10000) : Ev (fun k => F116 k (digs (B * n)) (digs X)) ((cmpI (B * n) X, ()), ((), (), ())) :=
  cmp_ev (digs_InR _) (digs_InR _) (digs_Trim _) (digs_Trim _) (VI_digs _) (VI_digs _) (by have := BN_len hb lb hB hn; omega) (by omega)
theorem l1CmpN (hb : InR b) (lb : b.length ≤ 1000) (hB : VI b = (B : Int)) {n : Nat} (hn : n ≤ 10000) : Ev (fun k => F111 k (digs (B * n)) (digs X)) ((cmpI (B * n) X, ()), ((), (), ())) :=
  l1CmpAbs_ev (digs_InR _) (digs_InR _) (digs_Trim _) (digs_Trim _) (VI_digs _) (VI_digs _) (by have := BN_len hb lb hB hn; omega)
theorem subN (hb : InR b) (lb : b.length ≤ 1000) (hB : VI b = (B : Int)) (lX : (digs X).length ≤ 2000) {n : Nat} (h : B * n ≤ X) : Ev (fun k => F117 k (digs X) (digs (B * n))) ((digs (X - B * n), ()), ((), (), ())) := by
  have := sub_ev (digs_InR X) (digs_InR (B * n)) (digs_Trim _) (by omega) (by rw [VI_digs, VI_digs]; omega)
  rw [VI_digs, VI_digs, show ((X : Int) - ((B * n : Nat) : Int)).toNat = X - B * n by omega] at this
  exact this
theorem quo_of {n : Nat} (h1 : B * n ≤ X) (h2 : X < B * (n + 1)) : n = X / B := by
  have hp : 0 < B := by
    rcases Nat.eq_zero_or_pos B with h | h
    · subst h; omega
    · exact h
  symm
  rw [Nat.div_eq_iff hp]
  constructor
  · rw [Nat.mul_comm]; omega
  · rw [Nat.mul_comm]
    have : B * (n + 1) = B * n + B := Nat.mul_succ B n
    omega
end
end Go.Proofs.YthpgglegdhjihaaGreatDoor.R
end

section
/-! Rf: quotients that are rounded; the least scale. -/
set_option autoImplicit false
set_option linter.unusedSimpArgs false
set_option linter.unusedVariables false
namespace Go.Proofs.YthpgglegdhjihaaGreatDoor.R
open Go.Rf
theorem len_gt (n : Nat) : decide (((digs n).length : Int) > 0) = decide (n ≠ 0) := by
  by_cases h : n = 0
  · subst h
    rw [digs_zero]; rfl
  · rw [digs_pos h]
    rw [decide_eq_true h, decide_eq_true (by simp)]
theorem len_is0 (n : Nat) : (((digs n).length : Int) == 0) = decide (n = 0) := by
  by_cases h : n = 0
  · subst h
    rw [digs_zero]; rfl
  · rw [digs_pos h, decide_eq_false h, beq_eq_false_iff_ne]
    simp; omega
theorem addN_ev {q : Nat} {c : List Int} {n : Nat} (hc : InR c) (lc : c.length ≤ 1000) (hn : VI c = (n : Int)) (lq : (digs q).length ≤ 1000) : Ev (fun k => F115 k (digs q) c) ((digs (q + n), ()), ((), (), ())) := by
  have := add_ev (digs_InR q) hc (by omega) (by omega)
  rw [VI_digs, hn, show ((q : Int) + (n : Int)).toNat = q + n by omega] at this
  exact this
/-- whether what is left is rounded away from nought -/
def rmore (mode : Int) (neg odd : Bool) (half : Int) : Bool := if mode = 1 then true else if mode = 2 then false else if mode = 3 then !neg else if mode = 4 then neg else if mode = 5 then decide (half ≥ 0) else if mode = 6 then decide (half > 0) else (decide (half > 0) || (half == 0 && odd))
/-- a quotient that is rounded -/
def rquo (neg : Bool) (V D : Nat) (mode : Int) : Nat := if V % D = 0 then V / D else if rmore mode neg (decide (V / D % 2 = 1)) (cmpI (V % D + V % D) D) = true then V / D + 1 else V / D
def trimN : Nat → Nat → Nat × Nat
  | V, 0 => (V, 0)
  | V, s + 1 => if V % 10 = 0 then trimN (V / 10) s else (V, s + 1)
theorem div10_len {V : Nat} {m : Nat} (h : (digs V).length ≤ m) : (digs (V / 10)).length ≤ m := by
  have h1 := VI_lt (digs_InR V)
  rw [VI_digs] at h1
  have h2 : V < 10000 ^ (digs V).length := by
    have : ((V : Nat) : Int) < ((10000 ^ (digs V).length : Nat) : Int) := by rw [Int.natCast_pow]; exact h1
    omega
  have := digs_len_le (Nat.lt_of_le_of_lt (Nat.div_le_self V 10) h2)
  omega
/-- a decimal at its least scale -/
def dTrim (n : Bool) (l : List Int) (s : Int) : Bool × List Int × Int × Unit := if decOk n l s = true then (n, digs (trimN (num l) s.toNat).1, ((trimN (num l) s.toNat).2 : Int), ()) else (false, [], 0, ())
end Go.Proofs.YthpgglegdhjihaaGreatDoor.R
end

section
/-! Rf: rounding to a scale. -/
set_option autoImplicit false
set_option linter.unusedSimpArgs false
set_option linter.unusedVariables false
namespace Go.Proofs.YthpgglegdhjihaaGreatDoor.R
open Go.Rf
theorem made_len1 {neg : Bool} {n : Nat} {s : Int} (h : (digs n).length ≤ 1000) : (made neg n s).1.2.1.length ≤ 1000 := by
  unfold made
  split
  · show ([] : List Int).length ≤ 1000
    simp
  · exact h
theorem pow_len {V m : Nat} (hV : V < 10000 ^ 16) (hm : m ≤ 24) : (digs (V * 10 ^ m)).length ≤ 40 := digs_len_le (at_lt hV hm)
/-- what is not in order -/
def dForm : (Bool × List Int × Int × Unit) × Int × Unit := ((false, [], 0, ()), 1, ())
/-- a decimal rounded to a scale -/
def dRound (n : Bool) (l : List Int) (s sc mode : Int) : (Bool × List Int × Int × Unit) × Int × Unit := if decOk n l s = true ∧ within sc 0 12 = true ∧ within mode 1 7 = true then
  (if s.toNat ≤ sc.toNat then made n (num l * 10 ^ (sc.toNat - s.toNat)) sc else made n (rquo n (num l) (10 ^ (s.toNat - sc.toNat)) mode) sc) else dForm
end Go.Proofs.YthpgglegdhjihaaGreatDoor.R
end

section
/-! Rf: products of decimals. -/
set_option autoImplicit false
set_option linter.unusedSimpArgs false
set_option linter.unusedVariables false
namespace Go.Proofs.YthpgglegdhjihaaGreatDoor.R
open Go.Rf
def dMul (n1 : Bool) (l1 : List Int) (s1 : Int) (n2 : Bool) (l2 : List Int) (s2 : Int) : (Bool × List Int × Int × Unit) × Int × Unit := if decOk n1 l1 s1 = true ∧ decOk n2 l2 s2 = true then
  (if s1 + s2 > 12 then made (!(n1 == n2)) (rquo (!(n1 == n2)) (num l1 * num l2) (10 ^ (s1.toNat + s2.toNat - 12)) 7) 12 else made (!(n1 == n2)) (num l1 * num l2) (s1 + s2)) else dForm
section
variable (n1 : Bool) (l1 : List Int) (s1 : Int) (n2 : Bool) (l2 : List Int) (s2 : Int)
end
end Go.Proofs.YthpgglegdhjihaaGreatDoor.R
end

section
/-! Rf, decimals: sums and differences, on both sides. -/
set_option autoImplicit false
set_option linter.unusedSimpArgs false
namespace Go.Proofs.YthpgglegdhjihaaGreatDoor.R
open Go.Rf
theorem made_len {neg : Bool} {n : Nat} {s : Int} (h : (digs n).length ≤ 100) : (made neg n s).1.2.1.length ≤ 1000 := by
  unfold made
  split
  · show ([] : List Int).length ≤ 1000
    simp
  · show (digs n).length ≤ 1000
    omega
theorem sSum_zero {na nb : Bool} {A : Nat} : sSum na A nb 0 = (na, A) := by
  unfold sSum
  split
  · rfl
  · rw [if_pos (Nat.zero_le _)]
    rfl
section
variable (n1 : Bool) (l1 : List Int) (s1 : Int) (n2 : Bool) (l2 : List Int) (s2 : Int)
/-- the sum of decimals; nb: the second's sign (turned where they are taken from each other) -/
def dSum (n1 : Bool) (l1 : List Int) (s1 : Int) (n2 : Bool) (l2 : List Int) (s2 : Int) (nb : Bool) : (Bool × List Int × Int × Unit) × Int × Unit := if decOk n1 l1 s1 = true ∧ decOk n2 l2 s2 = true then
  made (sSum n1 (num l1 * 10 ^ (max s1.toNat s2.toNat - s1.toNat)) nb (num l2 * 10 ^ (max s1.toNat s2.toNat - s2.toNat))).1 (sSum n1 (num l1 * 10 ^ (max s1.toNat s2.toNat - s1.toNat)) nb (num l2 * 10 ^ (max s1.toNat s2.toNat - s2.toNat))).2 ((max s1.toNat s2.toNat : Nat) : Int) else ((false, [], 0, ()), 1, ())
end
end Go.Proofs.YthpgglegdhjihaaGreatDoor.R
end

section
/-! Rf: decimals as whole numbers with a scale. -/
set_option autoImplicit false
set_option linter.unusedSimpArgs false
set_option linter.unusedVariables false
namespace Go.Proofs.YthpgglegdhjihaaGreatDoor.R
open Go.Rf
/-! ### figures -/
theorem decDigits_le : ∀ (k u : Nat), (Lib.decDigits u).length ≤ k + 1 → u < 10 ^ (k + 1)
  | 0, u, h => by
    by_cases hu : u < 10
    · simpa using hu
    · rw [Lib.decDigits, dif_neg hu, List.length_append] at h
      have : 0 < (Lib.decDigits (u / 10)).length := by
        rw [Lib.decDigits]; split <;> simp
      simp only [List.length_singleton] at h; omega
  | k + 1, u, h => by
    by_cases hu : u < 10
    · have : (1 : Nat) ≤ 10 ^ (k + 1) := Nat.pow_pos (by omega)
      rw [Nat.pow_succ]; omega
    · rw [Lib.decDigits, dif_neg hu, List.length_append] at h
      have := decDigits_le k (u / 10) (by simpa using h)
      rw [Nat.pow_succ]; omega
theorem dd1 {n : Nat} (h : n < 10) : Lib.decDigits n = [UInt8.ofNat (48 + n)] := by rw [Lib.decDigits, dif_pos h]
theorem ddS {n : Nat} (h : ¬ n < 10) : Lib.decDigits n = Lib.decDigits (n / 10) ++ [UInt8.ofNat (48 + n % 10)] := by rw [Lib.decDigits, dif_neg h]
theorem fig4_nat {n : Nat} (h : n < 10000) : fig4 (n : Int) = [UInt8.ofNat (48 + n / 1000), UInt8.ofNat (48 + n / 100 % 10), UInt8.ofNat (48 + n / 10 % 10), UInt8.ofNat (48 + n % 10)] := by
  rw [fig4, itoa_nat]
  by_cases h1 : n < 10
  · rw [dd1 h1, show n / 1000 = 0 by omega, show n / 100 = 0 by omega, show n / 10 = 0 by omega, show n % 10 = n by omega]
    rfl
  · by_cases h2 : n < 100
    · rw [ddS h1, dd1 (show n / 10 < 10 by omega), show n / 1000 = 0 by omega, show n / 100 = 0 by omega, show n / 10 % 10 = n / 10 by omega]
      rfl
    · by_cases h3 : n < 1000
      · rw [ddS h1, ddS (show ¬ n / 10 < 10 by omega), dd1 (show n / 10 / 10 < 10 by omega), show n / 1000 = 0 by omega, show n / 10 / 10 = n / 100 by omega, show n / 100 % 10 = n / 100 by omega]
        rfl
      · rw [ddS h1, ddS (show ¬ n / 10 < 10 by omega), ddS (show ¬ n / 10 / 10 < 10 by omega), dd1 (show n / 10 / 10 / 10 < 10 by omega), show n / 10 / 10 / 10 = n / 1000 by omega, show n / 10 / 10 = n / 100 by omega]
        rfl
theorem dd4 {n : Nat} (h : 10000 ≤ n) : Lib.decDigits n = Lib.decDigits (n / 10000) ++ fig4 ((n % 10000 : Nat) : Int) := by
  rw [fig4_nat (Nat.mod_lt _ (by omega)), ddS (show ¬ n < 10 by omega), ddS (show ¬ n / 10 < 10 by omega), ddS (show ¬ n / 10 / 10 < 10 by omega), ddS (show ¬ n / 10 / 10 / 10 < 10 by omega)]
  rw [show n / 10 / 10 / 10 / 10 = n / 10000 by omega, show n / 10 / 10 / 10 % 10 = n % 10000 / 1000 by omega, show n / 10 / 10 % 10 = n % 10000 / 100 % 10 by omega, show n / 10 % 10 = n % 10000 / 10 % 10 by omega, show n % 10 = n % 10000 % 10 by omega]
  simp only [List.append_assoc, List.singleton_append, List.cons_append, List.nil_append]
theorem figs_digs (n : Nat) (h : 0 < n) : figs (digs n) = Lib.decDigits n := by
  induction n using Nat.strongRecOn with
  | _ n ih =>
    rw [digs_pos (by omega)]
    by_cases h2 : n / 10000 = 0
    · rw [h2, digs_zero]
      show Lib.itoa _ = _
      rw [itoa_nat, show n % 10000 = n by omega]
    · have := ih (n / 10000) (by omega) (by omega)
      rw [dd4 (by omega), ← this]
      rw [digs_pos h2]
      rfl
theorem textL_digs (n : Nat) : textL (digs n) = ⟨(Lib.decDigits n).toArray⟩ := by
  by_cases h : n = 0
  · subst h
    rw [digs_zero, dd1 (by omega)]
    rfl
  · rw [textL_pos (by rw [digs_pos h]; simp), figs_digs n (by omega)]
theorem long_digs (n : Nat) : long (digs n) = if n = 0 then 0 else ((Lib.decDigits n).length : Int) := by
  unfold long
  by_cases h : n = 0
  · subst h; rw [digs_zero]; rfl
  · rw [if_neg h, if_neg (by rw [digs_pos h]; simp), textL_digs]
    rfl
theorem long30 (n : Nat) : long (digs n) > 30 ↔ ¬ n < 10 ^ 30 := by
  rw [long_digs]
  have h1 := decDigits_le 29 n
  have h2 := decDigits_len 29 n
  have h3 : (0 : Nat) < 10 ^ 30 := Nat.pow_pos (by omega)
  split
  · subst_vars
    constructor
    · intro h; omega
    · intro h; omega
  · constructor
    · intro h h'
      have := h2 h'
      omega
    · intro h
      have : ¬ (Lib.decDigits n).length ≤ 29 + 1 := fun h' => h (h1 h')
      omega
theorem lt30_16 {n : Nat} (h : n < 10 ^ 30) : n < 10000 ^ 16 := by
  have : (10 : Nat) ^ 30 < 10000 ^ 16 := by decide
  omega
theorem len16 {n : Nat} (h : n < 10 ^ 30) : (digs n).length ≤ 16 := digs_len_le (lt30_16 h)
theorem num_digs (n : Nat) : num (digs n) = n := by unfold num; rw [VI_digs]; rfl
/-! ### decimals -/
def sg (n : Bool) (A : Nat) : Int := if n = true then -(A : Int) else A
def D (z : Int) (s : Nat) : Bool × List Int × Int × Unit := (decide (z < 0), digs z.natAbs, (s : Int), ())
def mk (z : Int) (s : Nat) : (Bool × List Int × Int × Unit) × Int × Unit := if z.natAbs < 10 ^ 30 then (D z s, 0, ()) else ((false, [], 0, ()), 3, ())
theorem D_zero : D 0 0 = (false, [], 0, ()) := by
  unfold D
  rw [show (0 : Int).natAbs = 0 from rfl, digs_zero]
  rfl
theorem bOk_digs (z : Int) (h : z.natAbs < 10000 ^ 16) : bOk (decide (z < 0)) (digs z.natAbs) = true := by
  unfold bOk lastOk
  have h1 := digs_len_le h
  have h2 := digs_spec z.natAbs
  simp only [Bool.and_eq_true, decide_eq_true_eq]
  refine ⟨⟨h1, rangeOk_iff.2 h2.1⟩, ?_⟩
  by_cases h0 : z = 0
  · subst h0; rw [show (0 : Int).natAbs = 0 from rfl, digs_zero]; rfl
  · have hne : digs z.natAbs ≠ [] := fun e => h0 (by rw [digs_nil] at e; omega)
    rw [if_neg (fun e => hne (List.length_eq_zero_iff.1 e))]
    rcases h2.2.1 with h3 | h3
    · exact absurd h3 hne
    · exact bne_iff_ne.2 h3
theorem decOk_D {z : Int} {s : Nat} (h : z.natAbs < 10 ^ 30) (hs : s ≤ 12) : decOk (decide (z < 0)) (digs z.natAbs) (s : Int) = true := by
  unfold decOk
  rw [bOk_digs z (lt30_16 h), Bool.true_and, Bool.and_eq_true, decide_eq_true_eq]
  refine ⟨?_, ?_⟩
  · have h5 : ¬ long (digs z.natAbs) > 30 := fun h' => (long30 z.natAbs).1 h' h
    omega
  · unfold within
    simp; omega
theorem bOk_ex {n : Bool} {l : List Int} (h : bOk n l = true) : ∃ z : Int, n = decide (z < 0) ∧ l = digs z.natAbs ∧ z.natAbs < 10000 ^ 16 := by
  obtain ⟨h16, hr, ht, h0⟩ := bOk_of h
  refine ⟨sg n (num l), ?_, ?_, ?_⟩
  · unfold sg
    cases n with
    | false => simp
    | true =>
      have : l ≠ [] := fun e => by have := h0 e; cases this
      have := VI_pos hr ht this
      have h3 := num_spec hr
      simp; omega
  · have : (sg n (num l)).natAbs = num l := by unfold sg; split <;> omega
    rw [this, digs_num hr ht]
  · have : (sg n (num l)).natAbs = num l := by unfold sg; split <;> omega
    rw [this]
    have h1 := VI_lt hr
    rw [num_spec hr] at h1
    have h2 : num l < 10000 ^ l.length := by
      have : ((num l : Nat) : Int) < ((10000 ^ l.length : Nat) : Int) := by rw [Int.natCast_pow]; exact h1
      omega
    have h3 : 10000 ^ l.length ≤ 10000 ^ 16 := Nat.pow_le_pow_right (by omega) h16
    omega
theorem decOk_ex {n : Bool} {l : List Int} {s : Int} (h : decOk n l s = true) : ∃ (z : Int) (t : Nat), n = decide (z < 0) ∧ l = digs z.natAbs ∧ s = (t : Int) ∧ z.natAbs < 10 ^ 30 ∧ t ≤ 12 := by
  obtain ⟨h1, h2, t, h3, h4⟩ := decOk_of h
  obtain ⟨z, rfl, rfl, _⟩ := bOk_ex h1
  refine ⟨z, t, rfl, rfl, h3, ?_, h4⟩
  have h5 : ¬ ¬ z.natAbs < 10 ^ 30 := fun h' => by have := (long30 z.natAbs).2 h'; omega
  exact Decidable.not_not.1 h5
theorem sg_abs (n : Bool) (A : Nat) : (sg n A).natAbs = A := by unfold sg; split <;> omega
theorem made_mk (n : Bool) (A s : Nat) : made n A (s : Int) = mk (sg n A) s := by
  unfold made mk
  rw [sg_abs]
  have h := long30 A
  by_cases hA : A < 10 ^ 30
  · rw [if_neg (fun h' => h.1 h' hA), if_pos hA]
    unfold D
    rw [sg_abs, len_gt]
    have : (n && decide (A ≠ 0)) = decide (sg n A < 0) := by
      unfold sg
      cases n with
      | false => simp
      | true =>
        simp only [Bool.true_and, if_true]
        congr 1
        exact propext ⟨fun h => by omega, fun h => by omega⟩
    rw [this]
  · rw [if_pos (h.2 hA), if_neg hA]
theorem sg_sum (na : Bool) (A : Nat) (nb : Bool) (B : Nat) : sg (sSum na A nb B).1 (sSum na A nb B).2 = sg na A + sg nb B := by
  unfold sSum
  split
  · subst_vars
    unfold sg
    split <;> simp <;> omega
  · split
    · rename_i h1 h2
      unfold sg
      cases na <;> cases nb <;> simp_all <;> omega
    · rename_i h1 h2
      unfold sg
      cases na <;> cases nb <;> simp_all <;> omega
theorem sg_D (z : Int) : sg (decide (z < 0)) z.natAbs = z := by
  unfold sg
  by_cases h : z < 0
  · rw [if_pos (decide_eq_true h)]; omega
  · rw [if_neg (by simpa using h)]; omega
theorem sg_Dn (z : Int) : sg (!decide (z < 0)) z.natAbs = -z := by
  unfold sg
  by_cases h : z < 0
  · rw [decide_eq_true h]; simp; omega
  · rw [decide_eq_false h]; simp; omega
theorem sg_mul (n : Bool) (A k : Nat) : sg n (A * k) = sg n A * k := by
  unfold sg
  split
  · rw [Int.natCast_mul, Int.neg_mul]
  · rw [Int.natCast_mul]
theorem dSum_D {z1 z2 : Int} {s1 s2 : Nat} (h1 : z1.natAbs < 10 ^ 30) (h2 : z2.natAbs < 10 ^ 30) (t1 : s1 ≤ 12) (t2 : s2 ≤ 12) :
    dSum (decide (z1 < 0)) (digs z1.natAbs) (s1 : Int) (decide (z2 < 0)) (digs z2.natAbs) (s2 : Int) (decide (z2 < 0)) = mk (z1 * 10 ^ (max s1 s2 - s1) + z2 * 10 ^ (max s1 s2 - s2)) (max s1 s2) := by
  unfold dSum
  rw [if_pos ⟨decOk_D h1 t1, decOk_D h2 t2⟩, Int.toNat_natCast, Int.toNat_natCast, made_mk, sg_sum, sg_mul, sg_mul, num_digs, num_digs, sg_D, sg_D]
  simp only [Int.natCast_pow]
  rfl
theorem dSub_D {z1 z2 : Int} {s1 s2 : Nat} (h1 : z1.natAbs < 10 ^ 30) (h2 : z2.natAbs < 10 ^ 30) (t1 : s1 ≤ 12) (t2 : s2 ≤ 12) :
    dSum (decide (z1 < 0)) (digs z1.natAbs) (s1 : Int) (decide (z2 < 0)) (digs z2.natAbs) (s2 : Int) (!decide (z2 < 0)) = mk (z1 * 10 ^ (max s1 s2 - s1) - z2 * 10 ^ (max s1 s2 - s2)) (max s1 s2) := by
  unfold dSum
  rw [if_pos ⟨decOk_D h1 t1, decOk_D h2 t2⟩, Int.toNat_natCast, Int.toNat_natCast, made_mk, sg_sum, sg_mul, sg_mul, num_digs, num_digs, sg_D, sg_Dn]
  simp only [Int.natCast_pow, Int.neg_mul]
  rfl
def cmpZ (x y : Int) : Int := if x < y then -1 else if x = y then 0 else 1
theorem sCmp_sg {na nb : Bool} {A B : Nat} (ha : na = true → 0 < A) (hb : nb = true → 0 < B) : sCmp na A nb B = cmpZ (sg na A) (sg nb B) := by
  unfold sCmp cmpZ sg cmpI
  cases na <;> cases nb <;> simp at ha hb ⊢ <;> (repeat' split) <;> omega
theorem pow10_pos (k : Nat) : (0 : Int) < 10 ^ k := Int.pow_pos (by omega)
theorem dCmp_D {z1 z2 : Int} {s1 s2 : Nat} : dCmp (decide (z1 < 0)) (digs z1.natAbs) s1 (decide (z2 < 0)) (digs z2.natAbs) s2 = cmpZ (z1 * 10 ^ (max s1 s2 - s1)) (z2 * 10 ^ (max s1 s2 - s2)) := by
  unfold dCmp
  rw [num_digs, num_digs, sCmp_sg, sg_mul, sg_mul, sg_D, sg_D]
  · simp only [Int.natCast_pow]; rfl
  · intro h
    have : z1 < 0 := by simpa using h
    exact Nat.mul_pos (by omega) (Nat.pow_pos (by omega))
  · intro h
    have : z2 < 0 := by simpa using h
    exact Nat.mul_pos (by omega) (Nat.pow_pos (by omega))
/-- a quotient that is rounded, with sign -/
def rdiv (mode : Int) (z : Int) (d : Nat) : Int := sg (decide (z < 0)) (rquo (decide (z < 0)) z.natAbs d mode)
theorem dRound_D {z : Int} {s sc : Nat} {mode : Int} (h : z.natAbs < 10 ^ 30) (t : s ≤ 12) (hc : sc ≤ 12) (hm : 1 ≤ mode ∧ mode ≤ 7) :
    dRound (decide (z < 0)) (digs z.natAbs) (s : Int) (sc : Int) mode = if s ≤ sc then mk (z * 10 ^ (sc - s)) sc else mk (rdiv mode z (10 ^ (s - sc))) sc := by
  unfold dRound
  rw [if_pos ⟨decOk_D h t, by unfold within; simp; omega, by unfold within; simp; omega⟩, Int.toNat_natCast, Int.toNat_natCast]
  split
  · rw [made_mk, sg_mul, num_digs, sg_D]
    simp only [Int.natCast_pow]; rfl
  · rw [made_mk, num_digs]
    rfl
theorem sg_neg_zero (n : Bool) : sg n 0 = 0 := by unfold sg; split <;> rfl
theorem rquo_zero (n : Bool) (d : Nat) (mode : Int) : rquo n 0 d mode = 0 := by unfold rquo; simp
theorem neg_mul_lt {x y : Int} (hx : x < 0) (hy : 0 < y) : x * y < 0 := Int.mul_neg_of_neg_of_pos hx hy
/-- the sign of a product -/
theorem mul_neg (x y : Int) (h : x * y ≠ 0) : (!(decide (x < 0) == decide (y < 0))) = decide (x * y < 0) := by
  have hx : x ≠ 0 := fun e => h (by rw [e]; simp)
  have hy : y ≠ 0 := fun e => h (by rw [e]; simp)
  by_cases h1 : x < 0 <;> by_cases h2 : y < 0
  · have := Int.mul_pos_of_neg_of_neg h1 h2
    simp [h1, h2]; omega
  · have := Int.mul_neg_of_neg_of_pos h1 (show 0 < y by omega)
    simp [h1, h2]; omega
  · have := Int.mul_neg_of_pos_of_neg (show 0 < x by omega) h2
    simp [h1, h2]; omega
  · have := Int.mul_pos (show 0 < x by omega) (show 0 < y by omega)
    simp [h1, h2]; omega
theorem sg_prod (x y : Int) : sg (!(decide (x < 0) == decide (y < 0))) (x.natAbs * y.natAbs) = x * y := by
  rw [← Int.natAbs_mul]
  by_cases h : x * y = 0
  · rw [h]; exact sg_neg_zero _
  · rw [mul_neg x y h, sg_D]
theorem rdiv_prod (x y : Int) (d : Nat) (mode : Int) : sg (!(decide (x < 0) == decide (y < 0))) (rquo (!(decide (x < 0) == decide (y < 0))) (x.natAbs * y.natAbs) d mode) = rdiv mode (x * y) d := by
  rw [← Int.natAbs_mul]
  by_cases h : x * y = 0
  · rw [h]
    unfold rdiv
    rw [show (0 : Int).natAbs = 0 from rfl, rquo_zero, rquo_zero, sg_neg_zero, sg_neg_zero]
  · rw [mul_neg x y h]
    rfl
theorem dMul_D {z1 z2 : Int} {s1 s2 : Nat} (h1 : z1.natAbs < 10 ^ 30) (h2 : z2.natAbs < 10 ^ 30) (t1 : s1 ≤ 12) (t2 : s2 ≤ 12) :
    dMul (decide (z1 < 0)) (digs z1.natAbs) (s1 : Int) (decide (z2 < 0)) (digs z2.natAbs) (s2 : Int) = if s1 + s2 > 12 then mk (rdiv 7 (z1 * z2) (10 ^ (s1 + s2 - 12))) 12 else mk (z1 * z2) (s1 + s2) := by
  unfold dMul
  rw [if_pos ⟨decOk_D h1 t1, decOk_D h2 t2⟩, Int.toNat_natCast, Int.toNat_natCast, num_digs, num_digs]
  by_cases h : s1 + s2 > 12
  · rw [if_pos (by omega), if_pos h, show (12 : Int) = ((12 : Nat) : Int) from rfl, made_mk, rdiv_prod]
  · rw [if_neg (by omega), if_neg h, ← Int.natCast_add, made_mk, sg_prod]
theorem trimN_spec : ∀ (s V : Nat), (trimN V s).2 ≤ s ∧ (trimN V s).1 * 10 ^ (s - (trimN V s).2) = V ∧ ((trimN V s).2 = 0 ∨ (trimN V s).1 % 10 ≠ 0)
  | 0, V => by simp [trimN]
  | s + 1, V => by
    rw [trimN]
    split
    · obtain ⟨h1, h2, h3⟩ := trimN_spec s (V / 10)
      refine ⟨by omega, ?_, h3⟩
      rw [show s + 1 - (trimN (V / 10) s).2 = (s - (trimN (V / 10) s).2) + 1 by omega, Nat.pow_succ, ← Nat.mul_assoc, h2]
      omega
    · exact ⟨Nat.le_refl _, by simp, .inr (by assumption)⟩
theorem trimN_same {s V : Nat} (h : s = 0 ∨ V % 10 ≠ 0) : trimN V s = (V, s) := by
  cases s with
  | zero => rfl
  | succ s =>
    rw [trimN, if_neg (by omega)]
theorem dTrim_D {z : Int} {s : Nat} (h : z.natAbs < 10 ^ 30) (t : s ≤ 12) : ∃ (y : Int) (r : Nat), dTrim (decide (z < 0)) (digs z.natAbs) (s : Int) = D y r ∧ y.natAbs < 10 ^ 30 ∧ r ≤ s ∧ y * 10 ^ (s - r) = z ∧ (r = 0 ∨ y % 10 ≠ 0) := by
  obtain ⟨h1, h2, h3⟩ := trimN_spec s z.natAbs
  refine ⟨sg (decide (z < 0)) (trimN z.natAbs s).1, (trimN z.natAbs s).2, ?_, ?_, h1, ?_, ?_⟩
  · unfold dTrim
    rw [if_pos (decOk_D h t), Int.toNat_natCast, num_digs]
    unfold D
    rw [sg_abs]
    refine Prod.ext ?_ rfl
    show decide (z < 0) = decide (sg _ _ < 0)
    unfold sg
    by_cases hz : z < 0
    · have : (trimN z.natAbs s).1 ≠ 0 := fun e => by rw [e, Nat.zero_mul] at h2; omega
      simp [hz]; omega
    · simp [hz]
  · rw [sg_abs]
    have : (trimN z.natAbs s).1 ≤ z.natAbs := by
      conv => rhs; rw [← h2]
      exact Nat.le_mul_of_pos_right _ (Nat.pow_pos (by omega))
    omega
  · have : sg (decide (z < 0)) ((trimN z.natAbs s).1 * 10 ^ (s - (trimN z.natAbs s).2)) = z := by rw [h2, sg_D]
    rw [sg_mul, Int.natCast_pow] at this
    exact this
  · rcases h3 with h3 | h3
    · exact .inl h3
    · right
      unfold sg
      split <;> omega
theorem dTrim_same {z : Int} {s : Nat} (h : z.natAbs < 10 ^ 30) (t : s ≤ 12) (h3 : s = 0 ∨ z % 10 ≠ 0) : dTrim (decide (z < 0)) (digs z.natAbs) (s : Int) = D z s := by
  unfold dTrim
  rw [if_pos (decOk_D h t), Int.toNat_natCast, num_digs, trimN_same (by rcases h3 with h3 | h3; exact .inl h3; right; omega)]
  rfl
end Go.Proofs.YthpgglegdhjihaaGreatDoor.R
end

section
/-! Rf: how values compare is an order. -/
set_option autoImplicit false
set_option linter.unusedSimpArgs false
set_option linter.unusedVariables false
namespace Go.Proofs.YthpgglegdhjihaaGreatDoor.R
open Go.Rf
theorem zc_self (x : Int) : zc x x = 0 := zc_zero.2 rfl
theorem zc_swap (x y : Int) : zc y x = -zc x y := by
  unfold zc
  by_cases a : x < y
  · rw [if_pos a, if_neg (by omega), if_pos (by omega)]; rfl
  · by_cases b : y < x
    · rw [if_pos b, if_neg (by omega), if_pos (by omega)]
    · rw [if_neg b, if_neg (by omega), if_neg a, if_neg (by omega)]; rfl
theorem zc_le {x y : Int} : zc x y ≤ 0 ↔ x ≤ y := by
  unfold zc
  by_cases a : x < y
  · rw [if_pos a]; constructor <;> intro <;> omega
  · by_cases b : y < x
    · rw [if_neg a, if_pos (by omega)]; constructor <;> intro <;> omega
    · rw [if_neg a, if_neg (by omega)]; constructor <;> intro <;> omega
theorem zc_lt {x y : Int} : zc x y < 0 ↔ x < y := by
  unfold zc
  by_cases a : x < y
  · rw [if_pos a]; constructor <;> intro <;> omega
  · by_cases b : y < x
    · rw [if_neg a, if_pos (by omega)]; constructor <;> intro <;> omega
    · rw [if_neg a, if_neg (by omega)]; constructor <;> intro <;> omega
theorem zc_range (x y : Int) : -1 ≤ zc x y ∧ zc x y ≤ 1 := by
  unfold zc
  split
  · omega
  · split <;> omega
theorem zc_cmpZ (x y : Int) : cmpZ x y = zc x y := by
  unfold zc cmpZ
  by_cases a : x < y
  · rw [if_pos a, if_pos a]
  · by_cases b : y < x
    · rw [if_neg a, if_neg (by omega), if_neg a, if_pos (by omega)]
    · rw [if_neg a, if_pos (by omega), if_neg a, if_neg (by omega)]
theorem zc_mul {x y c : Int} (hc : 0 < c) : zc (x * c) (y * c) = zc x y := by
  unfold zc
  by_cases a : x < y
  · rw [if_pos a, if_pos (Int.mul_lt_mul_of_pos_right a hc)]
  · by_cases b : y < x
    · have := Int.mul_lt_mul_of_pos_right b hc
      rw [if_neg a, if_pos (show x > y by omega), if_neg (by omega), if_pos (by omega)]
    · have e : x = y := by omega
      subst e
      rw [if_neg a, if_neg (by omega), if_neg (by omega), if_neg (by omega)]
theorem cb_swap : ∀ a b : List UInt8, Lib.compareBytes b a = -Lib.compareBytes a b
  | [], [] => rfl
  | [], _ :: _ => rfl
  | _ :: _, [] => rfl
  | x :: a, y :: b => by
    have ih := cb_swap a b
    simp only [Lib.compareBytes, UInt8.lt_iff_toNat_lt]
    by_cases p : x.toNat < y.toNat
    · rw [if_neg (show ¬ y.toNat < x.toNat by omega), if_pos p, if_pos p]; rfl
    · by_cases q : y.toNat < x.toNat
      · rw [if_pos q, if_neg p, if_pos q]
      · rw [if_neg q, if_neg p, if_neg p, if_neg q]; exact ih
theorem tri {X Y Z : Nat} {r1 r2 r3 : Int} (h3 : r1 ≤ 0 → r2 ≤ 0 → r3 ≤ 0) (h1 : (if X < Y then (-1 : Int) else if Y < X then 1 else r1) ≤ 0) (h2 : (if Y < Z then (-1 : Int) else if Z < Y then 1 else r2) ≤ 0) : (if X < Z then (-1 : Int) else if Z < X then 1 else r3) ≤ 0 := by
  by_cases e : X < Z
  · rw [if_pos e]; omega
  rw [if_neg e]
  by_cases a : X < Y
  · by_cases c : Y < Z
    · omega
    · rw [if_neg c] at h2
      by_cases d : Z < Y
      · rw [if_pos d] at h2; omega
      · omega
  · rw [if_neg a] at h1
    by_cases b : Y < X
    · rw [if_pos b] at h1; omega
    rw [if_neg b] at h1
    by_cases c : Y < Z
    · omega
    rw [if_neg c] at h2
    by_cases d : Z < Y
    · rw [if_pos d] at h2; omega
    rw [if_neg d] at h2
    rw [if_neg (by omega)]
    exact h3 h1 h2
theorem cb_trans : ∀ a b c : List UInt8, Lib.compareBytes a b ≤ 0 → Lib.compareBytes b c ≤ 0 → Lib.compareBytes a c ≤ 0
  | [], _, [] => fun _ _ => by decide
  | [], _, _ :: _ => fun _ _ => by show (-1 : Int) ≤ 0; decide
  | _ :: _, [], _ => fun h _ => by have h : (1 : Int) ≤ 0 := h; omega
  | _ :: _, _ :: _, [] => fun _ h => by have h : (1 : Int) ≤ 0 := h; omega
  | x :: a, y :: b, z :: c => fun h1 h2 => by
    simp only [Lib.compareBytes, UInt8.lt_iff_toNat_lt] at h1 h2 ⊢
    exact tri (cb_trans a b c) h1 h2
theorem cb_range (a b : List UInt8) : -1 ≤ Lib.compareBytes a b ∧ Lib.compareBytes a b ≤ 1 := by
  obtain ⟨_, _, h⟩ := less_cmp a b
  omega
/-- a value, as one -/
structure Vl where
  (k : Int) (y n : Bool) (l : List Int) (s d m a : Int) (t : ByteArray)
def Vl.ok (v : Vl) : Bool := vOk v.k v.y v.n v.l v.s v.d v.m v.a v.t
def Vl.c (v w : Vl) : Int := vc v.k v.y v.n v.l v.s v.d v.m v.a v.t w.y w.n w.l w.s w.d w.m w.a w.t
def Vl.o (v w : Vl) : Int := vo v.k v.y v.n v.l v.s v.d v.m v.a v.t w.k w.y w.n w.l w.s w.d w.m w.a w.t
/-- where a value lies among those of its kind -/
def Key (v : Vl) (x : Int) : Prop := (v.k = 1 → x = bit v.y) ∧ (v.k = 2 → ∃ (z : Int) (t : Nat), v.n = decide (z < 0) ∧ v.l = digs z.natAbs ∧ v.s = (t : Int) ∧ t ≤ 12 ∧ x = z * 10 ^ (12 - t)) ∧ (v.k = 3 → x = v.d) ∧ (v.k = 4 → x = v.m * 10000000 + v.a ∧ -4000000 ≤ v.a ∧ v.a ≤ 4000000)
theorem key_ex (v : Vl) (h : v.ok = true) : ∃ x, Key v x := by
  unfold Key
  by_cases h1 : v.k = 1
  · exact ⟨bit v.y, fun _ => rfl, fun e => by omega, fun e => by omega, fun e => by omega⟩
  by_cases h2 : v.k = 2
  · obtain ⟨z, t, e1, e2, e3, _, e4⟩ := decOk_ex (vOk_num _ _ _ _ _ _ _ _ _ h h2)
    exact ⟨z * 10 ^ (12 - t), fun e => absurd e h1, fun _ => ⟨z, t, e1, e2, e3, e4, rfl⟩, fun e => by omega, fun e => by omega⟩
  by_cases h3 : v.k = 3
  · exact ⟨v.d, fun e => absurd e h1, fun e => absurd e h2, fun _ => rfl, fun e => by omega⟩
  by_cases h4 : v.k = 4
  · refine ⟨v.m * 10000000 + v.a, fun e => absurd e h1, fun e => absurd e h2, fun e => absurd e h3, fun _ => ⟨rfl, ?_⟩⟩
    have h : vOk v.k v.y v.n v.l v.s v.d v.m v.a v.t = true := h
    unfold vOk bodyOk spanOk within at h
    rw [if_neg h2, if_neg h3, if_pos h4] at h
    simp only [Bool.and_eq_true, decide_eq_true_iff] at h
    exact ⟨h.2.2.2.1, h.2.2.2.2⟩
  · exact ⟨0, fun e => absurd e h1, fun e => absurd e h2, fun e => absurd e h3, fun e => absurd e h4⟩
theorem c_key {v w : Vl} (hk : v.k = w.k) {x y : Int} (hx : Key v x) (hy : Key w y) : v.c w = if 1 ≤ v.k ∧ v.k ≤ 4 then zc x y else tc v.t w.t := by
  obtain ⟨a1, a2, a3, a4⟩ := hx
  obtain ⟨b1, b2, b3, b4⟩ := hy
  unfold Vl.c vc
  by_cases h1 : v.k = 1
  · rw [if_pos h1, if_pos (by omega), a1 h1, b1 (by omega)]
  by_cases h2 : v.k = 2
  · obtain ⟨z1, t1, e1, e2, e3, g1, rfl⟩ := a2 h2
    obtain ⟨z2, t2, e4, e5, e6, g2, rfl⟩ := b2 (by omega)
    rw [if_neg h1, if_pos h2, if_pos (by omega), e1, e2, e3, e4, e5, e6, Int.toNat_natCast, Int.toNat_natCast, dCmp_D, zc_cmpZ, ← zc_mul (pow10_pos (12 - max t1 t2)), Int.mul_assoc, Int.mul_assoc, ← Int.pow_add, ← Int.pow_add, show max t1 t2 - t1 + (12 - max t1 t2) = 12 - t1 by omega, show max t1 t2 - t2 + (12 - max t1 t2) = 12 - t2 by omega]
  by_cases h3 : v.k = 3
  · rw [if_neg h1, if_neg h2, if_pos h3, if_pos (by omega), a3 h3, b3 (by omega)]
  by_cases h4 : v.k = 4
  · obtain ⟨e1, e2, e3⟩ := a4 h4
    obtain ⟨e4, e5, e6⟩ := b4 (by omega)
    rw [if_neg h1, if_neg h2, if_neg h3, if_pos h4, if_pos (show 1 ≤ v.k ∧ v.k ≤ 4 by omega), e1, e4]
    unfold zc
    by_cases hm : v.m = w.m
    · rw [if_pos hm, hm]
      by_cases p : v.a < w.a
      · rw [if_pos p, if_pos (by omega)]
      · by_cases q : v.a > w.a
        · rw [if_neg p, if_pos q, if_neg (by omega), if_pos (by omega)]
        · rw [if_neg p, if_neg q, if_neg (by omega), if_neg (by omega)]
    · rw [if_neg hm]
      by_cases p : v.m < w.m
      · rw [if_pos p, if_pos (by omega)]
      · rw [if_neg p, if_pos (by omega), if_neg (by omega), if_pos (by omega)]
  · rw [if_neg h1, if_neg h2, if_neg h3, if_neg h4, if_neg (by omega)]
theorem o_key {v w : Vl} {x y : Int} (hx : Key v x) (hy : Key w y) : v.o w = if v.k = w.k then (if 1 ≤ v.k ∧ v.k ≤ 4 then zc x y else tc v.t w.t) else zc v.k w.k := by
  unfold Vl.o vo
  by_cases h : v.k = w.k
  · rw [if_pos h, if_pos h]
    exact c_key h hx hy
  · rw [if_neg h, if_neg h]
theorem o_range {v w : Vl} (hv : v.ok = true) (hw : w.ok = true) : -1 ≤ v.o w ∧ v.o w ≤ 1 := by
  obtain ⟨x, hx⟩ := key_ex v hv
  obtain ⟨y, hy⟩ := key_ex w hw
  rw [o_key hx hy]
  split
  · split
    · exact zc_range _ _
    · exact cb_range _ _
  · exact zc_range _ _
theorem o_swap {v w : Vl} (hv : v.ok = true) (hw : w.ok = true) : w.o v = -v.o w := by
  obtain ⟨x, hx⟩ := key_ex v hv
  obtain ⟨y, hy⟩ := key_ex w hw
  rw [o_key hx hy, o_key hy hx]
  by_cases h : v.k = w.k
  · rw [if_pos h, if_pos h.symm, ← h]
    split
    · exact zc_swap _ _
    · exact cb_swap _ _
  · rw [if_neg h, if_neg (Ne.symm h)]
    exact zc_swap _ _
theorem o_self {v : Vl} (hv : v.ok = true) : v.o v = 0 := by
  have := o_swap hv hv
  omega
theorem o_le {v w : Vl} (hv : v.ok = true) (hw : w.ok = true) (h : v.o w ≤ 0) : v.k ≤ w.k := by
  obtain ⟨x, hx⟩ := key_ex v hv
  obtain ⟨y, hy⟩ := key_ex w hw
  rw [o_key hx hy] at h
  by_cases e : v.k = w.k
  · omega
  · rw [if_neg e, zc_le] at h; exact h
theorem o_trans {v w u : Vl} (hv : v.ok = true) (hw : w.ok = true) (hu : u.ok = true) (h1 : v.o w ≤ 0) (h2 : w.o u ≤ 0) : v.o u ≤ 0 := by
  have k1 := o_le hv hw h1
  have k2 := o_le hw hu h2
  obtain ⟨x, hx⟩ := key_ex v hv
  obtain ⟨y, hy⟩ := key_ex w hw
  obtain ⟨z, hz⟩ := key_ex u hu
  rw [o_key hx hy] at h1
  rw [o_key hy hz] at h2
  rw [o_key hx hz]
  by_cases e : v.k = u.k
  · have e1 : v.k = w.k := by omega
    have e2 : w.k = u.k := by omega
    rw [if_pos e1] at h1
    rw [if_pos e2, ← e1] at h2
    rw [if_pos e]
    by_cases r : 1 ≤ v.k ∧ v.k ≤ 4
    · rw [if_pos r, zc_le] at h1 h2 ⊢
      omega
    · rw [if_neg r] at h1 h2 ⊢
      exact cb_trans _ _ _ h1 h2
  · rw [if_neg e, zc_le]
    omega
theorem o_trans' {v w u : Vl} (hv : v.ok = true) (hw : w.ok = true) (hu : u.ok = true) (h1 : 0 ≤ v.o w) (h2 : 0 ≤ w.o u) : 0 ≤ v.o u := by
  have := o_trans hu hw hv (by rw [o_swap hw hu]; omega) (by rw [o_swap hv hw]; omega)
  rw [o_swap hv hu] at this
  omega
theorem o_kind {v w : Vl} (hv : v.ok = true) (hw : w.ok = true) (hk : v.k ≠ w.k) : (v.k < w.k) ↔ v.o w < 0 := by
  obtain ⟨x, hx⟩ := key_ex v hv
  obtain ⟨y, hy⟩ := key_ex w hw
  rw [o_key hx hy, if_neg hk, zc_lt]
/-- the null -/
def nul : Vl := ⟨0, false, false, [], 0, 0, 0, 0, ByteArray.empty⟩
theorem nul_ok : nul.ok = true := by
  unfold Vl.ok nul vOk bareOk bodyOk within noText decZ
  simp
theorem nul_le {v : Vl} (hv : v.ok = true) : nul.o v ≤ 0 := by
  obtain ⟨x, hx⟩ := key_ex nul nul_ok
  obtain ⟨y, hy⟩ := key_ex v hv
  have hk := (vOk_kind hv).1
  have n0 : nul.k = 0 := rfl
  rw [o_key hx hy]
  by_cases h : nul.k = v.k
  · have ht := vOk_noText hv (show v.k ≠ 5 by omega)
    rw [if_pos h, if_neg (by omega)]
    unfold tc
    rw [ht]
    exact Int.le_refl _
  · rw [if_neg h, zc_le, n0]
    exact hk
end Go.Proofs.YthpgglegdhjihaaGreatDoor.R
end

section
/-! Rf: what the laws draw: numbers and decimals. -/
set_option autoImplicit false
set_option linter.unusedSimpArgs false
set_option linter.unusedVariables false
namespace Go.Proofs.YthpgglegdhjihaaGreatDoor.R
open Go.Rf
/-- a reader's bytes -/
structure Rd (bs : List Int) : Prop where
  len : bs.length ≤ 2000
  b8 : ∀ y ∈ bs, 0 ≤ y ∧ y ≤ 255
theorem xor_small {a b : Int} (ha : 0 ≤ a) (ha2 : a < 4611686018427387904) (hb : 0 ≤ b) (hb2 : b < 4611686018427387904) : 0 ≤ IntKind.i64.wrap (((BitVec.ofInt IntKind.i64.bits a ^^^ BitVec.ofInt IntKind.i64.bits b).toNat : Nat) : Int) := by
  have e : IntKind.i64.bits = 64 := rfl
  have h1 : (BitVec.ofInt IntKind.i64.bits a).toNat < 2 ^ 62 := by
    rw [BitVec.toNat_ofInt, e]
    omega
  have h2 : (BitVec.ofInt IntKind.i64.bits b).toNat < 2 ^ 62 := by
    rw [BitVec.toNat_ofInt, e]
    omega
  have h3 : (BitVec.ofInt IntKind.i64.bits a ^^^ BitVec.ofInt IntKind.i64.bits b).toNat < 2 ^ 62 := by
    rw [BitVec.toNat_xor]
    exact Nat.xor_lt_two_pow h1 h2
  rw [wrap64 (by omega) (by omega)]
  omega
theorem tmod_range {x n : Int} (hx : 0 ≤ x) (hn : 1 ≤ n) : 0 ≤ x.tmod n ∧ x.tmod n < n := by
  rw [Int.tmod_eq_emod_of_nonneg hx]
  exact ⟨Int.emod_nonneg _ (by omega), Int.emod_lt_of_pos _ (by omega)⟩
theorem pick_ev {bs : List Int} (hb : Rd bs) {p : Nat} (hp : p ≤ 1000000000) (n : Int) : ∃ v : Int, (0 ≤ v ∧ (1 ≤ n → v < n) ∧ (n < 1 → v = 0)) ∧ Ev (fun k => F49 k bs (p : Int) n) ((v, ()), ((bs, ((p + 1 : Nat) : Int), ()), (), ())) := by
  have e1 : IntKind.i64.wrap ((p : Int) + 1) = ((p + 1 : Nat) : Int) := wrap_succ (by omega)
  have e2 : IntKind.i64.wrap (((p + 1 : Nat) : Int) - 1) = (p : Int) := by rw [wrap64 (by omega) (by omega)]; omega
  have st : ∀ {r}, Ev (fun _ => if (decide (n < (1 : Int))) = true then some (((0 : Int), ()), ((bs, ((p + 1 : Nat) : Int), ()), (), ())) else if ((bs.length : Int) == (0 : Int)) = true then some (((0 : Int), ()), ((bs, ((p + 1 : Nat) : Int), ()), (), ())) else if (decide ((p : Int) < (bs.length : Int))) = true then if (decide (0 ≤ (p : Int))) = true then (bs[((p : Int)).toNat]?).bind fun y1 => if (!(n == 0)) = true then some ((((IntKind.i64.wrap y1).tmod n), ()), ((bs, ((p + 1 : Nat) : Int), ()), (), ())) else none else none else if (!((bs.length : Int) == 0)) = true then if (decide (0 ≤ ((p : Int).tmod (bs.length : Int)))) = true then (bs[((p : Int).tmod (bs.length : Int)).toNat]?).bind fun y2 => if (!((bs.length : Int) == 0)) = true then if (decide (0 ≤ ((IntKind.i64.wrap ((IntKind.i64.wrap ((p : Int) * (7 : Int))) + (3 : Int))).tmod (bs.length : Int)))) = true then (bs[((IntKind.i64.wrap ((IntKind.i64.wrap ((p : Int) * (7 : Int))) + (3 : Int))).tmod (bs.length : Int)).toNat]?).bind fun y3 => if (!((bs.length : Int) == 0)) = true then if (!(n == 0)) = true then some ((((IntKind.i64.wrap (((BitVec.ofInt IntKind.i64.bits (IntKind.i64.wrap ((IntKind.i64.wrap ((IntKind.i64.wrap ((IntKind.i64.wrap ((IntKind.i64.wrap y2) * (131 : Int))) + (IntKind.i64.wrap ((IntKind.i64.wrap y3) * (1117 : Int))))) + (IntKind.i64.wrap ((p : Int) * (29 : Int))))) + (IntKind.i64.wrap ((IntKind.i64.wrap ((p : Int).tdiv (bs.length : Int))) * (53 : Int))))) ^^^ BitVec.ofInt IntKind.i64.bits (IntKind.i64.wrap ((IntKind.i64.wrap ((IntKind.i64.wrap ((IntKind.i64.wrap ((IntKind.i64.wrap ((IntKind.i64.wrap y2) * (131 : Int))) + (IntKind.i64.wrap ((IntKind.i64.wrap y3) * (1117 : Int))))) + (IntKind.i64.wrap ((p : Int) * (29 : Int))))) + (IntKind.i64.wrap ((IntKind.i64.wrap ((p : Int).tdiv (bs.length : Int))) * (53 : Int))))).tdiv (64 : Int)))).toNat : Int))).tmod n), ()), ((bs, ((p + 1 : Nat) : Int), ()), (), ())) else none else none else none else none else none else none) r → Ev (fun k => F49 k bs (p : Int) n) r := by
    intro r h
    refine Ev.step 2 (fun k => F49_eq k _ _ _) ?_
    simp only [e1, e2]
    exact h
  by_cases h1 : n < 1
  · refine ⟨0, ⟨Int.le_refl _, fun h => by omega, fun _ => rfl⟩, st ?_⟩
    simp only [decide_eq_true h1, if_true]
    exact Ev.now _
  · have hn : (!(n == 0)) = true := by simp; omega
    by_cases h2 : bs.length = 0
    · refine ⟨0, ⟨Int.le_refl _, fun h => by omega, fun _ => rfl⟩, st ?_⟩
      simp only [decide_eq_false h1, Bool.false_eq_true, if_false, h2, Int.ofNat_zero, beq_self_eq_true, if_true]
      exact Ev.now _
    · have hl0 : ((bs.length : Int) == 0) = false := by rw [beq_eq_false_iff_ne]; omega
      by_cases h3 : p < bs.length
      · obtain ⟨y, hy⟩ : ∃ y, bs[p]? = some y := ⟨_, List.getElem?_eq_getElem h3⟩
        have hy8 := hb.b8 y (List.mem_of_getElem? hy)
        have hr := tmod_range (n := n) hy8.1 (by omega)
        refine ⟨y.tmod n, ⟨hr.1, fun _ => hr.2, fun h => by omega⟩, st ?_⟩
        have ey : IntKind.i64.wrap y = y := wrap64 (by omega) (by omega)
        simp only [decide_eq_false h1, Bool.false_eq_true, if_false, hl0, lt_true h3, ge0, if_true, Int.toNat_natCast, hy, Option.bind_some, hn, ey]
        exact Ev.now _
      · have hpos : (0 : Int) < (bs.length : Int) := by omega
        have t1 := tmod_range (x := (p : Int)) (n := (bs.length : Int)) (by omega) (by omega)
        have w7 : IntKind.i64.wrap ((p : Int) * 7) = (p : Int) * 7 := wrap64 (by omega) (by omega)
        have w73 : IntKind.i64.wrap ((p : Int) * 7 + 3) = (p : Int) * 7 + 3 := wrap64 (by omega) (by omega)
        have t2 := tmod_range (x := (p : Int) * 7 + 3) (n := (bs.length : Int)) (by omega) (by omega)
        obtain ⟨y, hy⟩ : ∃ y, bs[((p : Int).tmod (bs.length : Int)).toNat]? = some y := ⟨_, List.getElem?_eq_getElem (by omega)⟩
        obtain ⟨z, hz⟩ : ∃ z, bs[((((p : Int) * 7 + 3)).tmod (bs.length : Int)).toNat]? = some z := ⟨_, List.getElem?_eq_getElem (by omega)⟩
        have hy8 := hb.b8 y (List.mem_of_getElem? hy)
        have hz8 := hb.b8 z (List.mem_of_getElem? hz)
        have ey : IntKind.i64.wrap y = y := wrap64 (by omega) (by omega)
        have ez : IntKind.i64.wrap z = z := wrap64 (by omega) (by omega)
        have d0 : 0 ≤ (p : Int).tdiv (bs.length : Int) ∧ (p : Int).tdiv (bs.length : Int) ≤ (p : Int) := by
          rw [Int.tdiv_eq_ediv_of_nonneg (by omega)]
          exact ⟨Int.ediv_nonneg (by omega) (by omega), Int.ediv_le_self _ (by omega)⟩
        obtain ⟨d, hd⟩ : ∃ d, d = (p : Int).tdiv (bs.length : Int) := ⟨_, rfl⟩
        rw [← hd] at d0
        have w1 : IntKind.i64.wrap (y * 131) = y * 131 := wrap64 (by omega) (by omega)
        have w2 : IntKind.i64.wrap (z * 1117) = z * 1117 := wrap64 (by omega) (by omega)
        have w3 : IntKind.i64.wrap (y * 131 + z * 1117) = y * 131 + z * 1117 := wrap64 (by omega) (by omega)
        have w4 : IntKind.i64.wrap ((p : Int) * 29) = (p : Int) * 29 := wrap64 (by omega) (by omega)
        have w5 : IntKind.i64.wrap (y * 131 + z * 1117 + (p : Int) * 29) = y * 131 + z * 1117 + (p : Int) * 29 := wrap64 (by omega) (by omega)
        have w6 : IntKind.i64.wrap d = d := wrap64 (by omega) (by omega)
        have w8 : IntKind.i64.wrap (d * 53) = d * 53 := wrap64 (by omega) (by omega)
        obtain ⟨X, hX⟩ : ∃ X, X = y * 131 + z * 1117 + (p : Int) * 29 + d * 53 := ⟨_, rfl⟩
        have hX0 : 0 ≤ X ∧ X ≤ 1000000000000 := by omega
        have w9 : IntKind.i64.wrap X = X := wrap64 (by omega) (by omega)
        have q0 : 0 ≤ X.tdiv 64 ∧ X.tdiv 64 ≤ X := by
          rw [Int.tdiv_eq_ediv_of_nonneg (by omega)]
          omega
        have w10 : IntKind.i64.wrap (X.tdiv 64) = X.tdiv 64 := wrap64 (by omega) (by omega)
        have hx := xor_small (a := X) (b := X.tdiv 64) (by omega) (by omega) (by omega) (by omega)
        have hr := tmod_range (n := n) hx (by omega)
        refine ⟨_, ⟨hr.1, fun _ => hr.2, fun h => by omega⟩, st ?_⟩
        simp only [decide_eq_false h1, Bool.false_eq_true, if_false, hl0, lt_false (show bs.length ≤ p by omega), Bool.not_false, if_true, decide_eq_true t1.1, hy, Option.bind_some, w7, w73, decide_eq_true t2.1, hz, hn, ey, ez, w1, w2, w3, w4, w5, ← hd, w6, w8, ← hX, w9, w10]
        exact Ev.now _
theorem one_ev {bs : List Int} (hb : Rd bs) {p : Nat} (hp : p ≤ 1000000000) (l : List Int) (hl : 0 < l.length) : ∃ v ∈ l, Ev (fun k => F76 k bs (p : Int) l) ((v, ()), ((bs, ((p + 1 : Nat) : Int), ()), (), ())) := by
  obtain ⟨v, ⟨h0, h1, _⟩, h2⟩ := pick_ev hb hp (l.length : Int)
  have h1 := h1 (by omega)
  obtain ⟨y, hy⟩ : ∃ y, l[v.toNat]? = some y := ⟨_, List.getElem?_eq_getElem (by omega)⟩
  refine ⟨y, List.mem_of_getElem? hy, Ev.step 2 (fun k => F76_eq k _ _ _) (Ev.bind h2 ?_)⟩
  simp only [decide_eq_true h0, decide_eq_true h1, Bool.and_self, if_true, hy, Option.bind_some]
  exact Ev.now _
/-! ### figures -/
def Fig (s : ByteArray) : Prop := ∀ b ∈ s.data.toList, 48 ≤ b.toNat ∧ b.toNat ≤ 57
theorem Fig.app {s t : ByteArray} (hs : Fig s) (ht : Fig t) : Fig (s ++ t) := by
  intro b hb
  rw [ByteArray.data_append, Array.toList_append, List.mem_append] at hb
  rcases hb with hb | hb
  · exact hs b hb
  · exact ht b hb
theorem fig1 {d : Nat} (h : d < 10) : Fig ⟨[UInt8.ofNat (48 + d)].toArray⟩ := by
  intro b hb
  have hb : b ∈ [UInt8.ofNat (48 + d)] := hb
  rw [List.mem_singleton.1 hb, UInt8.toNat_ofNat']
  omega
theorem size_app (s t : ByteArray) : (s ++ t).size = s.size + t.size := ByteArray.size_append ..
section
variable {bs : List Int} (hb : Rd bs)
include hb
theorem figsI {n : Nat} (hn : n ≤ 64) : ∀ (m p : Nat) (s : ByteArray), s.size + m = max n s.size → p + 2 * m ≤ 1000000 → Fig s → s.size ≤ 64 → ∃ (t : ByteArray) (q : Nat), q ≤ p + 2 * m ∧ Fig t ∧ t.size ≤ 64 ∧ 0 < s.size + t.size + 1 ∧ s.size ≤ t.size ∧
    Ev (fun k => F119c4 k bs (p : Int) (n : Int) s) ((t, ()), ((bs, (q : Int), ()), (), ())) := by
  intro m
  induction m with
  | zero =>
    intro p s hs hp hf h64
    refine ⟨s, p, by omega, hf, h64, by omega, Nat.le_refl _, Ev.step 1 (fun k => F119c4_eq k _ _ _ _) ?_⟩
    simp only [lt_false (show n ≤ s.size by omega), Bool.false_eq_true, if_false]
    exact Ev.now _
  | succ m ih =>
    intro p s hs hp hf h64
    obtain ⟨v1, ⟨a0, a1, _⟩, h1⟩ := pick_ev hb (show p ≤ 1000000000 by omega) 10
    have a1 := a1 (by omega)
    obtain ⟨v2, hm, h2⟩ := one_ev hb (show p + 1 ≤ 1000000000 by omega) [0, 0, 9, 9, 5, 1, v1] (by simp)
    have hv : 0 ≤ v2 ∧ v2 < 10 := by
      simp only [List.mem_cons, List.not_mem_nil, or_false] at hm
      omega
    obtain ⟨d, rfl⟩ : ∃ d : Nat, v2 = (d : Int) := ⟨v2.toNat, by omega⟩
    have hd : d < 10 := by omega
    have hsz : (⟨[UInt8.ofNat (48 + d)].toArray⟩ : ByteArray).size = 1 := rfl
    have hs2 : (s ++ (⟨[UInt8.ofNat (48 + d)].toArray⟩ : ByteArray)).size = s.size + 1 := by rw [size_app, hsz]
    obtain ⟨t, q, hq, ht, ht64, _, hle, hE⟩ := ih (p + 1 + 1) (s ++ (⟨[UInt8.ofNat (48 + d)].toArray⟩ : ByteArray)) (by rw [hs2]; omega) (by omega) (hf.app (fig1 hd)) (by rw [hs2]; omega)
    refine ⟨t, q, by omega, ht, ht64, by omega, by omega, Ev.step 1 (fun k => F119c4_eq k _ _ _ _) ?_⟩
    simp only [lt_true (show s.size < n by omega), if_true]
    refine Ev.bind h1 (Ev.bind h2 ?_)
    simp only [bytesOf_digit hd, hsz]
    have hble : Nat.ble (s.size + 1) 9223372036854775807 = true := Nat.ble_eq_true_of_le (by omega)
    simp only [hble, if_true]
    exact hE
theorem figs_ev {n : Int} (h0 : 0 ≤ n) (hn : n ≤ 64) {p : Nat} (hp : p + 200 ≤ 1000000) : ∃ (t : ByteArray) (q : Nat), q ≤ p + 200 ∧ Fig t ∧ t.size ≤ 64 ∧ Ev (fun k => F119 k bs (p : Int) n) ((t, ()), ((bs, (q : Int), ()), (), ())) := by
  obtain ⟨m, rfl⟩ : ∃ m : Nat, n = (m : Int) := ⟨n.toNat, by omega⟩
  by_cases h1 : m < 1
  · refine ⟨⟨#[48]⟩, p, by omega, fig1 (d := 0) (by omega), by decide, Ev.step 2 (fun k => F119_eq k _ _ _) ?_⟩
    simp only [decide_eq_true (show (m : Int) < 1 by omega), if_true]
    exact Ev.now _
  · obtain ⟨v, ⟨a0, a1, _⟩, h2⟩ := pick_ev hb (show p ≤ 1000000000 by omega) 9
    have a1 := a1 (by omega)
    obtain ⟨d, rfl⟩ : ∃ d : Nat, v = (d : Int) := ⟨v.toNat, by omega⟩
    have e : (49 : Int) + (d : Int) = 48 + ((d + 1 : Nat) : Int) := by omega
    obtain ⟨t, q, hq, ht, ht64, _, _, hE⟩ := figsI hb (n := m) (by omega) (m - 1) (p + 1) ⟨[UInt8.ofNat (48 + (d + 1))].toArray⟩ (by show 1 + (m - 1) = max m 1; omega) (by omega) (fig1 (by omega)) (by show 1 ≤ 64; omega)
    refine ⟨t, q, by omega, ht, ht64, Ev.step 2 (fun k => F119_eq k _ _ _) ?_⟩
    simp only [decide_eq_false (show ¬ (m : Int) < 1 by omega), Bool.false_eq_true, if_false]
    refine Ev.bind h2 ?_
    simp only [e, bytesOf_digit (show d + 1 < 10 by omega)]
    exact hE
end
theorem many_ev {a : ByteArray} (ha : Fig a) (h1 : a.size = 1) : ∀ (m : Nat) (s : ByteArray), Fig s → s.size + m ≤ 64 → ∃ t : ByteArray, Fig t ∧ t.size = s.size + m ∧ Ev (fun k => F120c2 k a (m : Int) s) ((t, ()), ((), (), ())) := by
  intro m
  induction m with
  | zero =>
    intro s hs hm
    refine ⟨s, hs, rfl, Ev.step 1 (fun k => F120c2_eq k _ _ _) ?_⟩
    simp only [show decide (((0 : Nat) : Int) > 0) = false from by decide, Bool.false_eq_true, if_false]
    exact Ev.now _
  | succ m ih =>
    intro s hs hm
    have hsz : (s ++ a).size = s.size + 1 := by rw [size_app, h1]
    obtain ⟨t, ht, ht2, hE⟩ := ih (s ++ a) (hs.app ha) (by omega)
    have e : IntKind.i64.wrap (((m + 1 : Nat) : Int) - 1) = (m : Int) := by rw [wrap64 (by omega) (by omega)]; omega
    have hble : Nat.ble (s.size + a.size) 9223372036854775807 = true := Nat.ble_eq_true_of_le (by omega)
    refine ⟨t, ht, by omega, Ev.step 1 (fun k => F120c2_eq k _ _ _) ?_⟩
    simp only [decide_eq_true (show ((m + 1 : Nat) : Int) > 0 by omega), if_true, hble, e]
    exact hE
theorem l1Many_ev {a : ByteArray} (ha : Fig a) (h1 : a.size = 1) {n : Int} (hn : n ≤ 64) (h0 : -10 ≤ n) : ∃ t : ByteArray, Fig t ∧ t.size = n.toNat ∧ Ev (fun k => F120 k a n) ((t, ()), ((), (), ())) := by
  by_cases h : 0 ≤ n
  · obtain ⟨m, rfl⟩ : ∃ m : Nat, n = (m : Int) := ⟨n.toNat, by omega⟩
    obtain ⟨t, h2, h3, h4⟩ := many_ev ha h1 m ⟨#[]⟩ (fun b hb => by simp at hb) (by show 0 + m ≤ 64; omega)
    exact ⟨t, h2, by rw [h3]; show 0 + m = _; omega, Ev.step 2 (fun k => F120_eq k _ _) h4⟩
  · refine ⟨⟨#[]⟩, fun b hb => by simp at hb, by show 0 = _; omega, Ev.step 2 (fun k => F120_eq k _ _) (Ev.step 1 (fun k => F120c2_eq k _ _ _) ?_)⟩
    simp only [decide_eq_false (show ¬ n > 0 by omega), Bool.false_eq_true, if_false]
    exact Ev.now _
end Go.Proofs.YthpgglegdhjihaaGreatDoor.R
end

section
/-! Rf: what the laws draw: big integers. -/
set_option autoImplicit false
set_option linter.unusedSimpArgs false
set_option linter.unusedVariables false
namespace Go.Proofs.YthpgglegdhjihaaGreatDoor.R
open Go.Rf
theorem trimD {l : List Int} (hr : InR l) (hl : l.length ≤ 1000000) : ∃ N : Nat, (digs N).length ≤ l.length ∧ Ev (fun k => F133 k l) ((digs N, ()), ((), ())) := by
  refine ⟨(VI l).toNat, digs_len_le ?_, l1Trim_ev hr hl⟩
  have h1 := VI_lt hr
  have h2 := VI_nonneg hr
  have h3 : ((10000 ^ l.length : Nat) : Int) = 10000 ^ l.length := Int.natCast_pow ..
  omega
theorem byte_at {s : ByteArray} {i : Nat} (h : i < s.size) : s[i]? = some s[i] := by
  exact getElem?_pos s i h
theorem fig_at {s : ByteArray} (hs : Fig s) {i : Nat} (h : i < s.size) : 48 ≤ s[i].toNat ∧ s[i].toNat ≤ 57 := by
  refine hs _ ?_
  show s.data[i] ∈ s.data.toList
  rw [← Array.getElem_toList]
  exact List.getElem_mem _
theorem fig_extract {s : ByteArray} (hs : Fig s) (n : Nat) : Fig (s.extract 0 n) := by
  intro b hb
  rw [ByteArray.data_extract, Array.toList_extract] at hb
  exact hs b (List.mem_of_mem_drop (List.mem_of_mem_take hb))
theorem figVal {u : UInt8} (h : 48 ≤ u.toNat ∧ u.toNat ≤ 57) : IntKind.i64.wrap (IntKind.u8.wrap ((u.toNat : Int) - 48)) = ((u.toNat - 48 : Nat) : Int) := by
  rw [u8_small (by omega) (by omega), wrap64 (by omega) (by omega)]
  omega
theorem ffC : ∀ (m : Nat) (s : ByteArray) (x3 : List Int), s.size ≤ m → Fig s → InR x3 → x3.length + s.size ≤ 1000 → ∃ N : Nat, (digs N).length ≤ 1000 ∧ Ev (fun k => F122c2 k s x3) ((digs N, ()), ((), ())) := by
  intro m
  induction m using Nat.strongRecOn with
  | _ m ih =>
    intro s x3 hm hs hx hl
    by_cases h0 : s.size = 0
    · obtain ⟨N, hN1, h1⟩ := trimD hx (by omega)
      refine ⟨N, by omega, Ev.step 1 (fun k => F122c2_eq k _ _) ?_⟩
      simp only [h0, show decide (((0 : Nat) : Int) > 0) = false from by decide, Bool.false_eq_true, if_false]
      exact Ev.bind h1 (Ev.now _)
    · have hp : decide ((s.size : Int) > 0) = true := decide_eq_true (by omega)
      have key : ∀ f : Nat, f < s.size → s.size ≤ f + 4 → ∃ N : Nat, (digs N).length ≤ 1000 ∧ Ev (fun k => F122c6 k s x3 (f : Int)) ((digs N, ()), ((), ())) := by
        intro f hf hf4
        have hsz : (s.extract 0 f).size = f := by simp; omega
        have hN : ∀ d : Nat, d ≤ 9999 → ∃ N : Nat, (digs N).length ≤ 1000 ∧ Ev (fun k => F122c2 k (s.extract 0 f) (x3 ++ [(d : Int)])) ((digs N, ()), ((), ())) := fun d hd =>
          ih f (by omega) (s.extract 0 f) (x3 ++ [(d : Int)]) (by omega) (fig_extract hs f) (inrSnoc hx (by omega)) (by simp; omega)
        -- which limb it is
        have hd : ∃ d : Nat, d ≤ 9999 ∧ ∀ R, (Ev (fun k => if (decide (x3.length + [(d : Int)].length ≤ 17592186044416)) = true then if (decide (0 ≤ (f : Int)) && decide ((f : Int) ≤ (s.size : Int))) = true then F122c2 k (s.extract 0 ((f : Int)).toNat) (x3 ++ [(d : Int)]) else none else none) R) → Ev (fun k => F122c6 k s x3 (f : Int)) R := by
          have walk : ∀ (m i d : Nat), i + m = s.size → f ≤ i → d < 10 ^ (i - f) → ∃ d' : Nat, d' ≤ 9999 ∧ ∀ R, (Ev (fun k => if (decide (x3.length + [(d' : Int)].length ≤ 17592186044416)) = true then if (decide (0 ≤ (f : Int)) && decide ((f : Int) ≤ (s.size : Int))) = true then F122c2 k (s.extract 0 ((f : Int)).toNat) (x3 ++ [(d' : Int)]) else none else none) R) → Ev (fun k => F122c8 k s x3 (f : Int) (d : Int) (i : Int)) R := by
            intro m
            induction m with
            | zero =>
              intro i d hi hfi hd
              have : 10 ^ (i - f) ≤ 10 ^ 4 := Nat.pow_le_pow_right (by omega) (by omega)
              refine ⟨d, by omega, fun R hR => Ev.step 1 (fun k => F122c8_eq k _ _ _ _ _) ?_⟩
              simp only [lt_false (show s.size ≤ i by omega), Bool.false_eq_true, if_false]
              exact hR
            | succ m ihm =>
              intro i d hi hfi hd
              have hlt : i < s.size := by omega
              have hfa := fig_at hs hlt
              have h4 : 10 ^ (i - f) ≤ 10 ^ 3 := Nat.pow_le_pow_right (by omega) (by omega)
              have e1 : IntKind.i64.wrap ((d : Int) * 10) = ((d * 10 : Nat) : Int) := by rw [wrap64 (by omega) (by omega)]; omega
              have e2 : IntKind.i64.wrap (((d * 10 : Nat) : Int) + ((s[i].toNat - 48 : Nat) : Int)) = ((d * 10 + (s[i].toNat - 48) : Nat) : Int) := by rw [wrap64 (by omega) (by omega)]; omega
              obtain ⟨d', h1, h2⟩ := ihm (i + 1) (d * 10 + (s[i].toNat - 48)) (by omega) (by omega) (by
                rw [show i + 1 - f = (i - f) + 1 by omega, Nat.pow_succ]
                omega)
              refine ⟨d', h1, fun R hR => Ev.step 1 (fun k => F122c8_eq k _ _ _ _ _) ?_⟩
              simp only [lt_true hlt, ge0, if_true, Int.toNat_natCast, byte_at hlt, Option.bind_some, figVal hfa, e1, e2, wrap_succ (show i < 9223372036854775807 by omega)]
              exact h2 R hR
          obtain ⟨d, h1, h2⟩ := walk (s.size - f) f 0 (by omega) (Nat.le_refl _) (by rw [Nat.sub_self]; decide)
          exact ⟨d, h1, fun R hR => Ev.step 1 (fun k => F122c6_eq k _ _ _) (h2 R hR)⟩
        obtain ⟨d, hd1, hd2⟩ := hd
        obtain ⟨N, hN1, hN⟩ := hN d hd1
        refine ⟨N, hN1, hd2 _ ?_⟩
        simp only [decide_eq_true (show x3.length + [(d : Int)].length ≤ 17592186044416 by simp; omega), if_true, ge0, le_true (Nat.le_of_lt hf), Bool.and_self, Int.toNat_natCast]
        exact hN
      have e4 : IntKind.i64.wrap ((s.size : Int) - 4) = (s.size : Int) - 4 := wrap64 (by omega) (by omega)
      by_cases h4 : s.size < 4
      · obtain ⟨N, hN1, hN⟩ := key 0 (by omega) (by omega)
        refine ⟨N, hN1, Ev.step 1 (fun k => F122c2_eq k _ _) ?_⟩
        simp only [hp, if_true, e4, decide_eq_true (show (s.size : Int) - 4 < 0 by omega)]
        exact hN
      · obtain ⟨N, hN1, hN⟩ := key (s.size - 4) (by omega) (by omega)
        refine ⟨N, hN1, Ev.step 1 (fun k => F122c2_eq k _ _) ?_⟩
        simp only [hp, if_true, e4, decide_eq_false (show ¬ (s.size : Int) - 4 < 0 by omega), Bool.false_eq_true, if_false]
        rw [show (s.size : Int) - 4 = ((s.size - 4 : Nat) : Int) by omega]
        exact hN
theorem ff_ev {s : ByteArray} (hs : Fig s) (hl : s.size ≤ 900) : ∃ N : Nat, (digs N).length ≤ 1000 ∧ Ev (fun k => F122 k s) ((digs N, ()), ((), ())) := by
  obtain ⟨N, h1, h⟩ := ffC s.size s [] (Nat.le_refl _) hs InR.nil (by simp; omega)
  exact ⟨N, h1, Ev.step 2 (fun k => F122_eq k _) h⟩
/-- a big integer in order, out of its number -/
theorem l1Big_any (neg : Bool) (N : Nat) (hl : (digs N).length ≤ 1000) : ∃ (z : Int) (ok : Bool), z.natAbs < 10000 ^ 16 ∧ Ev (fun k => F121 k neg (digs N)) (((decide (z < 0), digs z.natAbs, ()), ok, ()), ((), (), ())) := by
  have ht := l1Trim_ev (digs_InR N) (by omega)
  rw [VI_digs, Int.toNat_natCast] at ht
  by_cases h16 : (digs N).length > 16
  · refine ⟨0, false, by decide, Ev.step 2 (fun k => F121_eq k _ _) (Ev.bind ht ?_)⟩
    simp only [decide_eq_true (show ((digs N).length : Int) > 16 by omega), if_true]
    rw [show (0 : Int).natAbs = 0 from rfl, digs_zero]
    exact Ev.now _
  · have hN : N < 10000 ^ 16 := by
      have h1 := VI_lt (digs_InR N)
      rw [VI_digs] at h1
      have h2 : N < 10000 ^ (digs N).length := by
        have : ((N : Nat) : Int) < ((10000 ^ (digs N).length : Nat) : Int) := by rw [Int.natCast_pow]; exact h1
        omega
      have h3 : 10000 ^ (digs N).length ≤ 10000 ^ 16 := Nat.pow_le_pow_right (by omega) (by omega)
      omega
    refine ⟨sg neg N, true, by rw [sg_abs]; exact hN, Ev.step 2 (fun k => F121_eq k _ _) (Ev.bind ht ?_)⟩
    rw [sg_abs]
    simp only [decide_eq_false (show ¬ ((digs N).length : Int) > 16 by omega), Bool.false_eq_true, if_false, len_gt]
    cases neg with
    | true =>
      have e : decide (sg true N < 0) = decide (N ≠ 0) := by
        unfold sg
        simp only [if_true]
        congr 1
        exact propext ⟨fun h => by omega, fun h => by omega⟩
      simp only [if_true, e]
      exact Ev.now _
    | false =>
      have e : decide (sg false N < 0) = false := by unfold sg; simp
      simp only [Bool.false_eq_true, if_false, e]
      exact Ev.now _
/-! ### the reference's number of a whole number -/
theorem tmod_abs (x : Int) : (x.tmod 10000 < 0 → 0 - x.tmod 10000 = ((x.natAbs % 10000 : Nat) : Int)) ∧ (¬ x.tmod 10000 < 0 → x.tmod 10000 = ((x.natAbs % 10000 : Nat) : Int)) ∧ (x.tdiv 10000).natAbs = x.natAbs / 10000 ∧ -10000 < x.tmod 10000 ∧ x.tmod 10000 < 10000 := by
  rcases Int.natAbs_eq x with h | h
  · have h1 : x.tmod 10000 = ((x.natAbs % 10000 : Nat) : Int) := by
      rw [Int.tmod_eq_emod_of_nonneg (by omega)]; omega
    have h2 : x.tdiv 10000 = ((x.natAbs / 10000 : Nat) : Int) := by
      rw [Int.tdiv_eq_ediv_of_nonneg (by omega)]; omega
    rw [h1, h2]
    omega
  · have h1 : x.tmod 10000 = -((x.natAbs % 10000 : Nat) : Int) := by
      conv => lhs; rw [h]
      rw [Int.neg_tmod, Int.tmod_eq_emod_of_nonneg (by omega)]; omega
    have h2 : x.tdiv 10000 = -((x.natAbs / 10000 : Nat) : Int) := by
      conv => lhs; rw [h]
      rw [Int.neg_tdiv, Int.tdiv_eq_ediv_of_nonneg (by omega)]; omega
    rw [h1, h2]
    omega
theorem bofC {n : Int} {b : Bool} {l : List Int} : ∀ (m : Nat) (x3 : List Int) (x4 : Int), x4.natAbs ≤ m → m < 10000 ^ 4 → x3.length + (digs x4.natAbs).length ≤ 1000 →
    Ev (fun k => F104c3 k n b l x3 x4) (((decide (n < 0), x3 ++ digs x4.natAbs, ()), ()), ((), ())) := by
  intro m
  induction m using Nat.strongRecOn with
  | _ m ih =>
    intro x3 x4 hm hm2 hl
    have h44 : (10000 : Nat) ^ 4 = 10000000000000000 := by decide
    by_cases h0 : x4 = 0
    · subst h0
      refine Ev.step 1 (fun k => F104c3_eq k _ _ _ _ _) ?_
      simp only [bne_self_eq_false, Bool.false_eq_true, if_false]
      rw [show (0 : Int).natAbs = 0 from rfl, digs_zero, List.append_nil]
      exact Ev.now _
    · have hn : x4.natAbs ≠ 0 := by omega
      obtain ⟨t1, t2, t3, t4, t5⟩ := tmod_abs x4
      have e : digs x4.natAbs = ((x4.natAbs % 10000 : Nat) : Int) :: digs (x4.tdiv 10000).natAbs := by rw [digs_pos hn, t3]
      rw [e, List.length_cons] at hl
      have hw : IntKind.i64.wrap (x4.tdiv 10000) = x4.tdiv 10000 := wrap64 (by omega) (by omega)
      have next : Ev (fun k => F104c7 k n b l x3 x4 ((x4.natAbs % 10000 : Nat) : Int)) (((decide (n < 0), x3 ++ digs x4.natAbs, ()), ()), ((), ())) := by
        have h1 := ih (x4.tdiv 10000).natAbs (by omega) (x3 ++ [((x4.natAbs % 10000 : Nat) : Int)]) (x4.tdiv 10000) (Nat.le_refl _) (by omega) (by rw [List.length_append, List.length_singleton]; omega)
        rw [List.append_assoc, List.singleton_append, ← e] at h1
        refine Ev.step 1 (fun k => F104c7_eq k _ _ _ _ _ _) ?_
        simp only [decide_eq_true (show x3.length + [((x4.natAbs % 10000 : Nat) : Int)].length ≤ 17592186044416 by simp; omega), if_true, hw]
        exact h1
      refine Ev.step 1 (fun k => F104c3_eq k _ _ _ _ _) ?_
      simp only [show (x4 != 0) = true from by simpa using h0, if_true]
      by_cases hneg : x4.tmod 10000 < 0
      · have hw2 : IntKind.i64.wrap (0 - x4.tmod 10000) = ((x4.natAbs % 10000 : Nat) : Int) := by
          rw [wrap64 (by omega) (by omega)]
          exact t1 hneg
        simp only [decide_eq_true hneg, if_true, hw2]
        exact next
      · simp only [decide_eq_false hneg, Bool.false_eq_true, if_false]
        rw [t2 hneg]
        exact next
theorem BigOf_sp {n : Int} (h : n.natAbs < 10000 ^ 4) : Ev (fun k => F104 k n) (((decide (n < 0), digs n.natAbs, ()), ()), ((), ())) := by
  have := bofC (n := n) (b := false) (l := []) n.natAbs [] n (Nat.le_refl _) h (by have := digs_len_le h; simp; omega)
  rw [List.nil_append] at this
  exact Ev.step 2 (fun k => F104_eq k _) this
/-! ### drawn -/
section
variable {bs : List Int} (hb : Rd bs)
include hb
theorem bigC9 {p : Nat} (hp : p + 10 ≤ 1000000) {b : Bool} {l : List Int} {s : ByteArray} (hs : Fig s) (h64 : s.size ≤ 64) : ∃ (z : Int) (q : Nat), z.natAbs < 10000 ^ 16 ∧ q ≤ p + 10 ∧ Ev (fun k => F102c9 k bs (p : Int) b l s) (((decide (z < 0), digs z.natAbs, ()), ()), ((bs, (q : Int), ()), (), ())) := by
  obtain ⟨v, _, h1⟩ := pick_ev hb (show p ≤ 1000000000 by omega) 3
  obtain ⟨N, hN, h2⟩ := ff_ev hs (by omega)
  obtain ⟨z, ok, hz, h3⟩ := l1Big_any (v == 0) N hN
  refine ⟨z, p + 1, hz, by omega, Ev.step 1 (fun k => F102c9_eq k _ _ _ _ _) (Ev.bind h1 (Ev.bind h2 (Ev.bind h3 (Ev.now _))))⟩
theorem bigC7 {p : Nat} (hp : p + 20 ≤ 1000000) {b : Bool} {l : List Int} {n : Int} (h0 : 0 ≤ n) (hn : n ≤ 64) {s : ByteArray} (hs : Fig s) (h64 : s.size ≤ 64) : ∃ (z : Int) (q : Nat), z.natAbs < 10000 ^ 16 ∧ q ≤ p + 20 ∧ Ev (fun k => F102c7 k bs (p : Int) b l n s) (((decide (z < 0), digs z.natAbs, ()), ()), ((bs, (q : Int), ()), (), ())) := by
  obtain ⟨v, _, h1⟩ := pick_ev hb (show p ≤ 1000000000 by omega) 6
  cases hv : (v == (0 : Int)) with
  | true =>
    obtain ⟨t, ht, ht2, h2⟩ := l1Many_ev (a := ⟨#[57]⟩) (fig1 (d := 9) (by omega)) rfl (n := n) (by omega) (by omega)
    obtain ⟨z, q, hz, hq, h3⟩ := bigC9 (p := p + 1) hb (by omega) (b := b) (l := l) ht (by omega)
    refine ⟨z, q, hz, by omega, Ev.step 1 (fun k => F102c7_eq k _ _ _ _ _ _) (Ev.bind h1 ?_)⟩
    simp only [hv, if_true]
    exact Ev.bind h2 h3
  | false =>
    obtain ⟨z, q, hz, hq, h3⟩ := bigC9 (p := p + 1) hb (by omega) (b := b) (l := l) hs h64
    refine ⟨z, q, hz, by omega, Ev.step 1 (fun k => F102c7_eq k _ _ _ _ _ _) (Ev.bind h1 ?_)⟩
    simp only [hv, Bool.false_eq_true, if_false]
    exact h3
theorem bigC4 {p : Nat} (hp : p + 300 ≤ 1000000) {b : Bool} {l : List Int} {n : Int} (h0 : 0 ≤ n) (hn : n ≤ 64) : ∃ (z : Int) (q : Nat), z.natAbs < 10000 ^ 16 ∧ q ≤ p + 300 ∧ Ev (fun k => F102c4 k bs (p : Int) b l n) (((decide (z < 0), digs z.natAbs, ()), ()), ((bs, (q : Int), ()), (), ())) := by
  obtain ⟨t, q, hq, ht, ht64, h1⟩ := figs_ev hb h0 hn (p := p) (by omega)
  obtain ⟨v, _, h2⟩ := pick_ev hb (show q ≤ 1000000000 by omega) 6
  cases hv : (v == (0 : Int)) with
  | true =>
    have e : IntKind.i64.wrap (n - 1) = n - 1 := wrap64 (by omega) (by omega)
    obtain ⟨u, hu, hu2, h3⟩ := l1Many_ev (a := ⟨#[48]⟩) (fig1 (d := 0) (by omega)) rfl (n := n - 1) (by omega) (by omega)
    have hsz : ((⟨#[49]⟩ : ByteArray) ++ u).size = 1 + u.size := by rw [size_app]; rfl
    obtain ⟨z, q2, hz, hq2, h4⟩ := bigC7 (p := q + 1) hb (by omega) (b := b) (l := l) h0 hn (s := (⟨#[49]⟩ : ByteArray) ++ u) (Fig.app (fig1 (d := 1) (by omega)) hu) (by rw [hsz]; omega)
    refine ⟨z, q2, hz, by omega, Ev.step 1 (fun k => F102c4_eq k _ _ _ _ _) (Ev.bind h1 (Ev.bind h2 ?_))⟩
    have hble : Nat.ble ((⟨#[49]⟩ : ByteArray).size + u.size) 9223372036854775807 = true := Nat.ble_eq_true_of_le (by show 1 + u.size ≤ _; omega)
    simp only [hv, if_true, e]
    refine Ev.bind h3 ?_
    simp only [hble, if_true]
    exact h4
  | false =>
    obtain ⟨z, q2, hz, hq2, h4⟩ := bigC7 (p := q + 1) hb (by omega) (b := b) (l := l) h0 hn ht ht64
    refine ⟨z, q2, hz, by omega, Ev.step 1 (fun k => F102c4_eq k _ _ _ _ _) (Ev.bind h1 (Ev.bind h2 ?_))⟩
    simp only [hv, Bool.false_eq_true, if_false]
    exact h4
theorem l14Big_ev {p : Nat} (hp : p + 400 ≤ 1000000) {most : Int} (hm : 1 ≤ most) (hm2 : most ≤ 64) : ∃ (z : Int) (q : Nat), z.natAbs < 10000 ^ 16 ∧ q ≤ p + 400 ∧ Ev (fun k => F102 k bs (p : Int) most) (((decide (z < 0), digs z.natAbs, ()), ()), ((bs, (q : Int), ()), (), ())) := by
  obtain ⟨v, ⟨a0, a1, _⟩, h1⟩ := pick_ev hb (show p ≤ 1000000000 by omega) 64
  have a1 := a1 (by omega)
  have e1 : IntKind.i64.wrap (1 + v) = 1 + v := wrap64 (by omega) (by omega)
  obtain ⟨n, hn, h2⟩ := one_ev hb (show p + 1 ≤ 1000000000 by omega) [0, 1, 1, 2, 3, 4, 5, 8, 9, 12, 17, 29, 30, 31, 33, 63, 64, 1 + v] (by simp)
  have hn2 : 0 ≤ n ∧ n ≤ 64 := by
    simp only [List.mem_cons, List.not_mem_nil, or_false] at hn
    omega
  by_cases hg : n > most
  · obtain ⟨u, ⟨b0, b1, _⟩, h3⟩ := pick_ev hb (show p + 1 + 1 ≤ 1000000000 by omega) most
    have b1 := b1 hm
    have e2 : IntKind.i64.wrap (1 + u) = 1 + u := wrap64 (by omega) (by omega)
    obtain ⟨z, q, hz, hq, h4⟩ := bigC4 (p := p + 1 + 1 + 1) hb (by omega) (b := false) (l := []) (n := 1 + u) (by omega) (by omega)
    refine ⟨z, q, hz, by omega, Ev.step 2 (fun k => F102_eq k _ _ _) (Ev.bind h1 ?_)⟩
    simp only [e1]
    refine Ev.bind h2 ?_
    simp only [decide_eq_true hg, if_true]
    refine Ev.bind h3 ?_
    simp only [e2]
    exact h4
  · obtain ⟨z, q, hz, hq, h4⟩ := bigC4 (p := p + 1 + 1) hb (by omega) (b := false) (l := []) (n := n) (by omega) (by omega)
    refine ⟨z, q, hz, by omega, Ev.step 2 (fun k => F102_eq k _ _ _) (Ev.bind h1 ?_)⟩
    simp only [e1]
    refine Ev.bind h2 ?_
    simp only [decide_eq_false hg, Bool.false_eq_true, if_false]
    exact h4
end
end Go.Proofs.YthpgglegdhjihaaGreatDoor.R
end

section
/-! Rf: what the laws draw: decimals. -/
set_option autoImplicit false
set_option linter.unusedSimpArgs false
set_option linter.unusedVariables false
namespace Go.Proofs.YthpgglegdhjihaaGreatDoor.R
open Go.Rf
theorem Rd.of {code : List Int} (h : code.length ≤ 2000) (w : ∀ y ∈ code, 0 ≤ y ∧ y ≤ 255) : Rd code := ⟨h, w⟩
theorem open_ev (code : List Int) (w : ∀ y ∈ code, 0 ≤ y ∧ y ≤ 255) : ∃ bs, Rd bs ∧ Ev (fun k => F47 k code) (((bs, 0, ()), ()), ((), ())) := by
  by_cases h : code.length > 2000
  · refine ⟨code.take 2000, ⟨by simp; omega, fun y hy => w y (List.mem_of_mem_take hy)⟩, Ev.step 2 (fun k => F47_eq k _) ?_⟩
    simp only [decide_eq_true (show (code.length : Int) > 2000 by omega), if_true, show decide ((0 : Int) ≤ 2000) = true from rfl, decide_eq_true (show (2000 : Int) ≤ code.length by omega), Bool.and_self, slices0]
    exact Ev.step 1 (fun k => F47c3_eq k _) (Ev.now _)
  · refine ⟨code, ⟨by omega, w⟩, Ev.step 2 (fun k => F47_eq k _) ?_⟩
    simp only [decide_eq_false (show ¬ (code.length : Int) > 2000 by omega), Bool.false_eq_true, if_false]
    exact Ev.step 1 (fun k => F47c3_eq k _) (Ev.now _)
theorem z16 {z : Int} (h : z.natAbs < 10000 ^ 16) : (digs z.natAbs).length ≤ 16 := digs_len_le h
theorem anyC10 {bs : List Int} {p : Nat} {b1 b2 : Bool} {l1 : List Int} : ∀ (m : Nat) (l : List Int), l.length + m = max 17 l.length → l.length ≤ 17 → ∃ l' : List Int, l'.length ≤ 20 ∧ Ev (fun k => F103c10 k bs (p : Int) b1 l1 b2 l) (((b2, l', ()), ()), ((bs, (p : Int), ()), ())) := by
  intro m
  induction m with
  | zero =>
    intro l hm h17
    refine ⟨l, by omega, Ev.step 1 (fun k => F103c10_eq k _ _ _ _ _ _) ?_⟩
    simp only [decide_eq_false (show ¬ (l.length : Int) < 17 by omega), Bool.false_eq_true, if_false]
    exact Ev.step 1 (fun k => F103c12_eq k _ _ _ _ _ _) (Ev.now _)
  | succ m ih =>
    intro l hm h17
    have hl : (l ++ [(1 : Int)]).length = l.length + 1 := by simp
    obtain ⟨l', h1, h2⟩ := ih (l ++ [1]) (by omega) (by omega)
    refine ⟨l', h1, Ev.step 1 (fun k => F103c10_eq k _ _ _ _ _ _) ?_⟩
    simp only [decide_eq_true (show (l.length : Int) < 17 by omega), if_true, decide_eq_true (show l.length + [(1 : Int)].length ≤ 17592186044416 by simp; omega)]
    exact h2
section
variable {bs : List Int} (hb : Rd bs)
include hb
theorem anyBig_ev {p : Nat} (hp : p + 500 ≤ 1000000) : ∃ (n : Bool) (l : List Int) (q : Nat), l.length ≤ 100 ∧ q ≤ p + 500 ∧ Ev (fun k => F103 k bs (p : Int)) (((n, l, ()), ()), ((bs, (q : Int), ()), ())) := by
  obtain ⟨z, q, hz, hq, h1⟩ := l14Big_ev hb (p := p) (by omega) (most := 64) (by omega) (by omega)
  have hz := z16 hz
  obtain ⟨v, ⟨a0, a1, _⟩, h2⟩ := pick_ev hb (show q ≤ 1000000000 by omega) 30
  have st : ∀ {r}, Ev (fun k => if (v == (0 : Int)) = true then if (decide ((digs z.natAbs).length + [(0 : Int)].length ≤ 17592186044416)) = true then F103c12 k bs ((q + 1 : Nat) : Int) false ([] : List Int) (decide (z < 0)) (digs z.natAbs ++ [(0 : Int)]) else none else if (v == (1 : Int)) = true then (F76 k bs ((q + 1 : Nat) : Int) [(10000 : Int), (-1 : Int)]).bind fun r3 => if (decide ((digs z.natAbs).length + [r3.1.1].length ≤ 17592186044416)) = true then F103c12 k r3.2.1.1 r3.2.1.2.1 false ([] : List Int) (decide (z < 0)) (digs z.natAbs ++ [r3.1.1]) else none else if (v == (2 : Int)) = true then some (((true, ([] : List Int), ()), ()), ((bs, ((q + 1 : Nat) : Int), ()), ())) else if (v == (3 : Int)) = true then F103c10 k bs ((q + 1 : Nat) : Int) false ([] : List Int) (decide (z < 0)) (digs z.natAbs) else F103c12 k bs ((q + 1 : Nat) : Int) false ([] : List Int) (decide (z < 0)) (digs z.natAbs)) r → Ev (fun k => F103 k bs (p : Int)) r := fun h => Ev.step 2 (fun k => F103_eq k _ _) (Ev.bind h1 (Ev.bind h2 h))
  have c12 : ∀ {q' : Nat} {l : List Int}, Ev (fun k => F103c12 k bs (q' : Int) false ([] : List Int) (decide (z < 0)) l) (((decide (z < 0), l, ()), ()), ((bs, (q' : Int), ()), ())) := fun {q' l} => Ev.step 1 (fun k => F103c12_eq k _ _ _ _ _ _) (Ev.now _)
  cases c0 : (v == (0 : Int)) with
  | true =>
    refine ⟨decide (z < 0), digs z.natAbs ++ [0], q + 1, by simp; omega, by omega, st ?_⟩
    simp only [c0, if_true, decide_eq_true (show (digs z.natAbs).length + [(0 : Int)].length ≤ 17592186044416 by simp; omega)]
    exact c12
  | false =>
    cases c1 : (v == (1 : Int)) with
    | true =>
      obtain ⟨u, _, h3⟩ := one_ev hb (show q + 1 ≤ 1000000000 by omega) [10000, -1] (by simp)
      refine ⟨decide (z < 0), digs z.natAbs ++ [u], q + 1 + 1, by simp; omega, by omega, st ?_⟩
      simp only [c0, c1, Bool.false_eq_true, if_false, if_true]
      refine Ev.bind h3 ?_
      simp only [decide_eq_true (show (digs z.natAbs).length + [u].length ≤ 17592186044416 by simp; omega), if_true]
      exact c12
    | false =>
      cases c2 : (v == (2 : Int)) with
      | true =>
        refine ⟨true, [], q + 1, by simp, by omega, st ?_⟩
        simp only [c0, c1, c2, Bool.false_eq_true, if_false, if_true]
        exact Ev.now _
      | false =>
        cases c3 : (v == (3 : Int)) with
        | true =>
          obtain ⟨l', hl', h3⟩ := anyC10 (bs := bs) (p := q + 1) (b1 := false) (b2 := decide (z < 0)) (l1 := []) (17 - (digs z.natAbs).length) (digs z.natAbs) (by omega) (by omega)
          refine ⟨decide (z < 0), l', q + 1, by omega, by omega, st ?_⟩
          simp only [c0, c1, c2, c3, Bool.false_eq_true, if_false, if_true]
          exact h3
        | false =>
          refine ⟨decide (z < 0), digs z.natAbs, q + 1, by omega, by omega, st ?_⟩
          simp only [c0, c1, c2, c3, Bool.false_eq_true, if_false]
          exact c12
/-- a decimal in order, but for its figures -/
theorem l14Dec_ev {p : Nat} (hp : p + 600 ≤ 1000000) : ∃ (z : Int) (s q : Nat), z.natAbs < 10000 ^ 16 ∧ s ≤ 12 ∧ q ≤ p + 600 ∧ Ev (fun k => F83 k bs (p : Int)) (((decide (z < 0), digs z.natAbs, (s : Int), ()), ()), ((bs, (q : Int), ()), ())) := by
  obtain ⟨v, ⟨a0, a1, _⟩, h1⟩ := pick_ev hb (show p ≤ 1000000000 by omega) 13
  have a1 := a1 (by omega)
  obtain ⟨s, hs, h2⟩ := one_ev hb (show p + 1 ≤ 1000000000 by omega) [0, 0, 1, 2, 2, 3, 6, 12, v] (by simp)
  have hs2 : 0 ≤ s ∧ s ≤ 12 := by
    simp only [List.mem_cons, List.not_mem_nil, or_false] at hs
    omega
  obtain ⟨t, rfl⟩ : ∃ t : Nat, s = (t : Int) := ⟨s.toNat, by omega⟩
  obtain ⟨u, ⟨b0, b1, _⟩, h3⟩ := pick_ev hb (show p + 1 + 1 ≤ 1000000000 by omega) 5
  have h16 : (10000 : Nat) ^ 4 ≤ 10000 ^ 16 := Nat.pow_le_pow_right (by omega) (by omega)
  have h44 : (10000 : Nat) ^ 4 = 10000000000000000 := by decide
  cases c0 : (u == (0 : Int)) with
  | true =>
    obtain ⟨x, ⟨d0, d1, _⟩, h4⟩ := pick_ev hb (show p + 1 + 1 + 1 ≤ 1000000000 by omega) 200
    have d1 := d1 (by omega)
    have e : IntKind.i64.wrap (x - 100) = x - 100 := wrap64 (by omega) (by omega)
    have h5 := BigOf_sp (n := x - 100) (by omega)
    refine ⟨x - 100, t, p + 1 + 1 + 1 + 1, by omega, by omega, by omega, Ev.step 2 (fun k => F83_eq k _ _) (Ev.bind h1 (Ev.bind h2 (Ev.bind h3 ?_)))⟩
    simp only [c0, if_true]
    refine Ev.bind h4 ?_
    simp only [e]
    exact Ev.bind h5 (Ev.now _)
  | false =>
    cases c1 : (u == (1 : Int)) with
    | true =>
      obtain ⟨x, hx, h4⟩ := one_ev hb (show p + 1 + 1 + 1 ≤ 1000000000 by omega) [5, 15, 25, 35, 45, -5, -15, -25, 50, 150, 250, 499, 500, 501, -500, 1500, 2500, -2500, 1000, 20] (by simp)
      have hx2 : -2500 ≤ x ∧ x ≤ 2500 := by
        simp only [List.mem_cons, List.not_mem_nil, or_false] at hx
        omega
      have h5 := BigOf_sp (n := x) (by omega)
      refine ⟨x, t, p + 1 + 1 + 1 + 1, by omega, by omega, by omega, Ev.step 2 (fun k => F83_eq k _ _) (Ev.bind h1 (Ev.bind h2 (Ev.bind h3 ?_)))⟩
      simp only [c0, c1, Bool.false_eq_true, if_false, if_true]
      exact Ev.bind h4 (Ev.bind h5 (Ev.now _))
    | false =>
      cases c2 : (u == (2 : Int)) with
      | true =>
        obtain ⟨z, q, hz, hq, h4⟩ := l14Big_ev hb (p := p + 1 + 1 + 1) (by omega) (most := 8) (by omega) (by omega)
        refine ⟨z, t, q, hz, by omega, by omega, Ev.step 2 (fun k => F83_eq k _ _) (Ev.bind h1 (Ev.bind h2 (Ev.bind h3 ?_)))⟩
        simp only [c0, c1, c2, Bool.false_eq_true, if_false, if_true]
        exact Ev.bind h4 (Ev.now _)
      | false =>
        obtain ⟨z, q, hz, hq, h4⟩ := l14Big_ev hb (p := p + 1 + 1 + 1) (by omega) (most := 30) (by omega) (by omega)
        refine ⟨z, t, q, hz, by omega, by omega, Ev.step 2 (fun k => F83_eq k _ _) (Ev.bind h1 (Ev.bind h2 (Ev.bind h3 ?_)))⟩
        simp only [c0, c1, c2, Bool.false_eq_true, if_false]
        exact Ev.bind h4 (Ev.now _)
theorem anyDec_ev {p : Nat} (hp : p + 1300 ≤ 1000000) : ∃ (n : Bool) (l : List Int) (s : Int) (q : Nat), l.length ≤ 100 ∧ q ≤ p + 1300 ∧ Ev (fun k => F78 k bs (p : Int)) (((n, l, s, ()), ()), ((bs, (q : Int), ()), ())) := by
  obtain ⟨z, s, q, hz, hs, hq, h1⟩ := l14Dec_ev hb (p := p) (by omega)
  have hz16 := z16 hz
  obtain ⟨v, _, h2⟩ := pick_ev hb (show q ≤ 1000000000 by omega) 30
  have c9 : ∀ {q' : Nat} {n : Bool} {l : List Int} {s : Int}, Ev (fun k => F78c9 k bs (q' : Int) false ([] : List Int) (0 : Int) n l s) (((n, l, s, ()), ()), ((bs, (q' : Int), ()), ())) := fun {q' n l s} => Ev.step 1 (fun k => F78c9_eq k _ _ _ _ _ _ _ _) (Ev.now _)
  cases c0 : (v == (0 : Int)) with
  | true =>
    obtain ⟨u, _, h3⟩ := one_ev hb (show q + 1 ≤ 1000000000 by omega) [-1, 13, 4611686018427387904] (by simp)
    refine ⟨decide (z < 0), digs z.natAbs, u, q + 1 + 1, by omega, by omega, Ev.step 2 (fun k => F78_eq k _ _) (Ev.bind h1 (Ev.bind h2 ?_))⟩
    simp only [c0, if_true]
    exact Ev.bind h3 c9
  | false =>
    cases c1 : (v == (1 : Int)) with
    | true =>
      obtain ⟨y, q2, hy, hq2, h3⟩ := l14Big_ev hb (p := q + 1) (by omega) (most := 31) (by omega) (by omega)
      have hy := z16 hy
      refine ⟨decide (y < 0), digs y.natAbs, (s : Int), q2, by omega, by omega, Ev.step 2 (fun k => F78_eq k _ _) (Ev.bind h1 (Ev.bind h2 ?_))⟩
      simp only [c0, c1, Bool.false_eq_true, if_false, if_true]
      exact Ev.bind h3 c9
    | false =>
      cases c2 : (v == (2 : Int)) with
      | true =>
        obtain ⟨n, l, q2, hl, hq2, h3⟩ := anyBig_ev hb (p := q + 1) (by omega)
        refine ⟨n, l, (s : Int), q2, by omega, by omega, Ev.step 2 (fun k => F78_eq k _ _) (Ev.bind h1 (Ev.bind h2 ?_))⟩
        simp only [c0, c1, c2, Bool.false_eq_true, if_false, if_true]
        exact Ev.bind h3 c9
      | false =>
        refine ⟨decide (z < 0), digs z.natAbs, (s : Int), q + 1, by omega, by omega, Ev.step 2 (fun k => F78_eq k _ _) (Ev.bind h1 (Ev.bind h2 ?_))⟩
        simp only [c0, c1, c2, Bool.false_eq_true, if_false]
        exact c9
end
end Go.Proofs.YthpgglegdhjihaaGreatDoor.R
end

section
/-! Rf: what the laws draw: values. -/
set_option autoImplicit false
set_option linter.unusedSimpArgs false
set_option linter.unusedVariables false
namespace Go.Proofs.YthpgglegdhjihaaGreatDoor.R
open Go.Rf
theorem leap_ev (a : Int) : ∃ b : Bool, Ev (fun k => F136 k a) ((b, ()), ((), ())) := by
  by_cases h1 : a.tmod 4 = 0
  · by_cases h2 : a.tmod 100 = 0
    · refine ⟨a.tmod 400 == 0, Ev.step 2 (fun k => F136_eq k _) ?_⟩
      simp only [h1, h2, beq_self_eq_true, bne_self_eq_false, Bool.false_eq_true, if_true, if_false]
      exact Ev.now _
    · refine ⟨true, Ev.step 2 (fun k => F136_eq k _) ?_⟩
      simp only [h1, bne_iff_ne.2 h2, beq_self_eq_true, if_true]
      exact Ev.now _
  · refine ⟨a.tmod 400 == 0, Ev.step 2 (fun k => F136_eq k _) ?_⟩
    simp only [beq_eq_false_iff_ne.2 h1, Bool.false_eq_true, if_false]
    exact Ev.now _
theorem last_ev (y m : Int) : ∃ v : Int, Ev (fun k => F124 k y m) ((v, ()), ((), (), ())) := by
  by_cases h2 : m = 2
  · obtain ⟨b, hb⟩ := leap_ev y
    refine ⟨if b = true then 29 else 28, Ev.step 2 (fun k => F124_eq k _ _) ?_⟩
    simp only [h2, beq_self_eq_true, if_true]
    refine Ev.bind hb ?_
    cases b
    · simp only [Bool.false_eq_true, if_false]; exact Ev.now _
    · simp only [if_true]; exact Ev.now _
  have g2 := beq_eq_false_iff_ne.2 h2
  by_cases h : m = 4 ∨ m = 6 ∨ m = 9 ∨ m = 11
  · refine ⟨30, Ev.step 2 (fun k => F124_eq k _ _) ?_⟩
    rcases h with rfl | rfl | rfl | rfl
    · exact Ev.now _
    · exact Ev.now _
    · exact Ev.now _
    · exact Ev.now _
  · refine ⟨31, Ev.step 2 (fun k => F124_eq k _ _) ?_⟩
    simp only [g2, beq_eq_false_iff_ne.2 (show m ≠ 4 by omega), beq_eq_false_iff_ne.2 (show m ≠ 6 by omega), beq_eq_false_iff_ne.2 (show m ≠ 9 by omega), beq_eq_false_iff_ne.2 (show m ≠ 11 by omega), Bool.false_eq_true, if_false]
    exact Ev.step 1 (fun k => F124c11_eq k) (Ev.now _)
theorem ofC {y m : Int} (hm : m ≤ 100) : ∀ (n : Nat) (i x : Int), m ≤ i + n → 1 ≤ i → i ≤ 100 → ∃ v : Int, Ev (fun k => F105c3 k y m x i) ((v, ()), ((), (), (), ()))
  | 0, i, x, h, _, _ => by
    refine ⟨x, Ev.step 1 (fun k => F105c3_eq k _ _ _ _) ?_⟩
    simp only [decide_eq_false (show ¬ i < m by omega), Bool.false_eq_true, if_false]
    exact Ev.now _
  | n + 1, i, x, h, h1, h2 => by
    by_cases hi : i < m
    · obtain ⟨u, hu⟩ := last_ev y i
      obtain ⟨v, hv⟩ := ofC hm n (i + 1) (IntKind.i64.wrap (x + u)) (by omega) (by omega) (by omega)
      refine ⟨v, Ev.step 1 (fun k => F105c3_eq k _ _ _ _) ?_⟩
      simp only [decide_eq_true hi, if_true, wrap64 (show -9223372036854775808 ≤ i + 1 by omega) (by omega)]
      exact Ev.bind hu hv
    · refine ⟨x, Ev.step 1 (fun k => F105c3_eq k _ _ _ _) ?_⟩
      simp only [decide_eq_false hi, Bool.false_eq_true, if_false]
      exact Ev.now _
theorem l3Of_ev (y m d : Int) (hm : m ≤ 100) : ∃ v : Int, Ev (fun k => F105 k y m d) ((v, ()), ((), (), (), ())) := by
  have hb : ∃ u : Int, Ev (fun k => F123 k y) ((u, ()), ((), ())) := ⟨_, Ev.step 2 (fun k => F123_eq k _) (Ev.now _)⟩
  obtain ⟨u, hu⟩ := hb
  obtain ⟨v, hv⟩ := ofC (y := y) (m := m) hm 200 1 (IntKind.i64.wrap (u + d)) (by omega) (by omega) (by omega)
  exact ⟨v, Ev.step 2 (fun k => F105_eq k _ _ _) (Ev.bind hu hv)⟩
section
variable {bs : List Int} (hb : Rd bs)
include hb
theorem of_ev {p : Nat} (hp : p ≤ 1000000000) (l : List ByteArray) (hl : 0 < l.length) (hl2 : l.length ≤ 1000) : ∃ v ∈ l, Ev (fun k => F77 k bs (p : Int) l) ((v, ()), ((bs, ((p + 1 : Nat) : Int), ()), (), ())) := by
  obtain ⟨v, ⟨h0, h1, _⟩, h2⟩ := pick_ev hb hp (l.length : Int)
  have h1 := h1 (by omega)
  obtain ⟨y, hy⟩ : ∃ y, l[v.toNat]? = some y := ⟨_, List.getElem?_eq_getElem (by omega)⟩
  refine ⟨y, List.mem_of_getElem? hy, Ev.step 2 (fun k => F77_eq k _ _ _) (Ev.bind h2 ?_)⟩
  simp only [decide_eq_true h0, decide_eq_true h1, Bool.and_self, if_true, hy, Option.bind_some]
  exact Ev.now _
theorem day_ev {p : Nat} (hp : p + 10 ≤ 1000000) : ∃ (v : Int) (q : Nat), q ≤ p + 10 ∧ Ev (fun k => F84 k bs (p : Int)) ((v, ()), ((bs, (q : Int), ()), ())) := by
  obtain ⟨v, ⟨v0, v1, _⟩, h1⟩ := pick_ev hb (show p ≤ 1000000000 by omega) 6
  by_cases c0 : v = 0
  · obtain ⟨u, _, h2⟩ := one_ev hb (show p + 1 ≤ 1000000000 by omega) [1, 2, 31, 59, 60, 3652059, 3652058, 366] (by simp)
    refine ⟨u, p + 1 + 1, by omega, Ev.step 2 (fun k => F84_eq k _ _) (Ev.bind h1 ?_)⟩
    simp only [c0, beq_self_eq_true, if_true]
    exact Ev.bind h2 (Ev.now _)
  by_cases c1 : v = 1
  · obtain ⟨u, _, h2⟩ := one_ev hb (show p + 1 ≤ 1000000000 by omega) [4, 1900, 2000, 2023, 2024, 2100, 9999] (by simp)
    obtain ⟨u2, hu2, h3⟩ := one_ev hb (show p + 1 + 1 ≤ 1000000000 by omega) [1, 2, 2, 3, 12] (by simp)
    obtain ⟨w, h4⟩ := l3Of_ev u u2 28 (by simp at hu2; omega)
    refine ⟨w, p + 1 + 1 + 1, by omega, Ev.step 2 (fun k => F84_eq k _ _) (Ev.bind h1 ?_)⟩
    simp only [c1, show ((1 : Int) == 0) = false from rfl, beq_self_eq_true, Bool.false_eq_true, if_false, if_true]
    exact Ev.bind h2 (Ev.bind h3 (Ev.bind h4 (Ev.now _)))
  by_cases c2 : v = 2
  · obtain ⟨u, _, h2⟩ := one_ev hb (show p + 1 ≤ 1000000000 by omega) [4, 2000, 2024, 9996] (by simp)
    obtain ⟨w, h4⟩ := l3Of_ev u 2 29 (by omega)
    refine ⟨w, p + 1 + 1, by omega, Ev.step 2 (fun k => F84_eq k _ _) (Ev.bind h1 ?_)⟩
    simp only [c2, show ((2 : Int) == 0) = false from rfl, show ((2 : Int) == 1) = false from rfl, beq_self_eq_true, Bool.false_eq_true, if_false, if_true]
    exact Ev.bind h2 (Ev.bind h4 (Ev.now _))
  by_cases c3 : v = 3
  · obtain ⟨u, _, h2⟩ := one_ev hb (show p + 1 ≤ 1000000000 by omega) [1, 2023, 2024, 9999] (by simp)
    obtain ⟨u2, hu2, h3⟩ := one_ev hb (show p + 1 + 1 ≤ 1000000000 by omega) [1, 3, 5, 8, 10, 12] (by simp)
    obtain ⟨w, h4⟩ := l3Of_ev u u2 31 (by simp at hu2; omega)
    refine ⟨w, p + 1 + 1 + 1, by omega, Ev.step 2 (fun k => F84_eq k _ _) (Ev.bind h1 ?_)⟩
    simp only [c3, show ((3 : Int) == 0) = false from rfl, show ((3 : Int) == 1) = false from rfl, show ((3 : Int) == 2) = false from rfl, beq_self_eq_true, Bool.false_eq_true, if_false, if_true]
    exact Ev.bind h2 (Ev.bind h3 (Ev.bind h4 (Ev.now _)))
  · obtain ⟨u, ⟨u0, u1, _⟩, h2⟩ := pick_ev hb (show p + 1 ≤ 1000000000 by omega) 8
    obtain ⟨u', ⟨u0', u1', _⟩, h3⟩ := pick_ev hb (show p + 1 + 1 ≤ 1000000000 by omega) 12
    obtain ⟨w, _, h4⟩ := pick_ev hb (show p + 1 + 1 + 1 ≤ 1000000000 by omega) 28
    have u1' := u1' (by omega)
    obtain ⟨d, h5⟩ := l3Of_ev (IntKind.i64.wrap (2020 + u)) (IntKind.i64.wrap (1 + u')) (IntKind.i64.wrap (1 + w)) (by rw [wrap64 (by omega) (by omega)]; omega)
    refine ⟨d, p + 1 + 1 + 1 + 1, by omega, Ev.step 2 (fun k => F84_eq k _ _) (Ev.bind h1 ?_)⟩
    simp only [beq_eq_false_iff_ne.2 c0, beq_eq_false_iff_ne.2 c1, beq_eq_false_iff_ne.2 c2, beq_eq_false_iff_ne.2 c3, Bool.false_eq_true, if_false]
    exact Ev.bind h2 (Ev.bind h3 (Ev.bind h4 (Ev.bind h5 (Ev.now _))))
theorem span_ev {p : Nat} (hp : p + 10 ≤ 1000000) : ∃ (m d : Int) (q : Nat), q ≤ p + 10 ∧ Ev (fun k => F85 k bs (p : Int)) (((m, d, ()), ()), ((bs, (q : Int), ()), ())) := by
  obtain ⟨v, ⟨v0, v1, _⟩, h1⟩ := pick_ev hb (show p ≤ 1000000000 by omega) 5
  by_cases c0 : v = 0
  · obtain ⟨u, _, h2⟩ := one_ev hb (show p + 1 ≤ 1000000000 by omega) [0, 120000, -120000, 119987, -119988] (by simp)
    obtain ⟨u2, _, h3⟩ := one_ev hb (show p + 1 + 1 ≤ 1000000000 by omega) [0, 4000000, -4000000] (by simp)
    refine ⟨u, u2, p + 1 + 1 + 1, by omega, Ev.step 2 (fun k => F85_eq k _ _) (Ev.bind h1 ?_)⟩
    simp only [c0, beq_self_eq_true, if_true]
    exact Ev.bind h2 (Ev.bind h3 (Ev.now _))
  by_cases c1 : v = 1
  · obtain ⟨u, _, h2⟩ := pick_ev hb (show p + 1 ≤ 1000000000 by omega) 30
    refine ⟨IntKind.i64.wrap (u - 15), 0, p + 1 + 1, by omega, Ev.step 2 (fun k => F85_eq k _ _) (Ev.bind h1 ?_)⟩
    simp only [c1, show ((1 : Int) == 0) = false from rfl, beq_self_eq_true, Bool.false_eq_true, if_false, if_true]
    exact Ev.bind h2 (Ev.now _)
  by_cases c2 : v = 2
  · obtain ⟨u, _, h2⟩ := pick_ev hb (show p + 1 ≤ 1000000000 by omega) 80
    refine ⟨0, IntKind.i64.wrap (u - 40), p + 1 + 1, by omega, Ev.step 2 (fun k => F85_eq k _ _) (Ev.bind h1 ?_)⟩
    simp only [c2, show ((2 : Int) == 0) = false from rfl, show ((2 : Int) == 1) = false from rfl, beq_self_eq_true, Bool.false_eq_true, if_false, if_true]
    exact Ev.bind h2 (Ev.now _)
  · obtain ⟨u, _, h2⟩ := pick_ev hb (show p + 1 ≤ 1000000000 by omega) 60
    obtain ⟨u2, _, h3⟩ := pick_ev hb (show p + 1 + 1 ≤ 1000000000 by omega) 60
    refine ⟨IntKind.i64.wrap (u - 30), IntKind.i64.wrap (u2 - 30), p + 1 + 1 + 1, by omega, Ev.step 2 (fun k => F85_eq k _ _) (Ev.bind h1 ?_)⟩
    simp only [beq_eq_false_iff_ne.2 c0, beq_eq_false_iff_ne.2 c1, beq_eq_false_iff_ne.2 c2, Bool.false_eq_true, if_false]
    exact Ev.bind h2 (Ev.bind h3 (Ev.now _))
theorem word_ev {p : Nat} (hp : p + 10 ≤ 1000000) : ∃ t : ByteArray, t.size ≤ 100 ∧ Ev (fun k => F86 k bs (p : Int)) ((t, ()), ((bs, ((p + 1 : Nat) : Int), ()), ())) := by
  obtain ⟨t, ht, h1⟩ := of_ev hb (show p ≤ 1000000000 by omega) [(⟨#[]⟩ : ByteArray), (⟨#[97]⟩ : ByteArray), (⟨#[98]⟩ : ByteArray), (⟨#[97, 98]⟩ : ByteArray), (⟨#[105, 116, 39, 115]⟩ : ByteArray), (⟨#[39, 39]⟩ : ByteArray), (⟨#[122, 32, 122]⟩ : ByteArray), (⟨#[116, 114, 117, 101]⟩ : ByteArray), (⟨#[49, 50]⟩ : ByteArray), (⟨#[49, 46, 53, 48]⟩ : ByteArray), (⟨#[50, 48, 50, 52, 45, 48, 50, 45, 50, 57]⟩ : ByteArray), (⟨#[126, 126, 126, 126, 126, 126, 126, 126, 126, 126, 126, 126]⟩ : ByteArray), (⟨#[51, 109, 45, 52, 100]⟩ : ByteArray), (⟨#[65]⟩ : ByteArray)] (by simp) (by simp)
  refine ⟨t, ?_, Ev.step 2 (fun k => F86_eq k _ _) (Ev.bind h1 (Ev.now _))⟩
  simp only [List.mem_cons, List.not_mem_nil, or_false] at ht
  rcases ht with rfl | rfl | rfl | rfl | rfl | rfl | rfl | rfl | rfl | rfl | rfl | rfl | rfl | rfl <;> decide
theorem anyDay_ev {p : Nat} (hp : p + 20 ≤ 1000000) : ∃ (v : Int) (q : Nat), q ≤ p + 20 ∧ Ev (fun k => F79 k bs (p : Int)) ((v, ()), ((bs, (q : Int), ()), ())) := by
  obtain ⟨v, _, h1⟩ := pick_ev hb (show p ≤ 1000000000 by omega) 20
  by_cases c0 : v = 0
  · obtain ⟨u, _, h2⟩ := one_ev hb (show p + 1 ≤ 1000000000 by omega) [0, -1, 3652060] (by simp)
    refine ⟨u, p + 1 + 1, by omega, Ev.step 2 (fun k => F79_eq k _ _) (Ev.bind h1 ?_)⟩
    simp only [c0, beq_self_eq_true, if_true]
    exact Ev.bind h2 (Ev.now _)
  · obtain ⟨u, q, hq, h2⟩ := day_ev hb (p := p + 1) (by omega)
    refine ⟨u, q, by omega, Ev.step 2 (fun k => F79_eq k _ _) (Ev.bind h1 ?_)⟩
    simp only [beq_eq_false_iff_ne.2 c0, Bool.false_eq_true, if_false]
    exact Ev.bind h2 (Ev.now _)
theorem anySpan_ev {p : Nat} (hp : p + 20 ≤ 1000000) : ∃ (m d : Int) (q : Nat), q ≤ p + 20 ∧ Ev (fun k => F80 k bs (p : Int)) (((m, d, ()), ()), ((bs, (q : Int), ()), ())) := by
  obtain ⟨m, d, q, hq, h1⟩ := span_ev hb (p := p) (by omega)
  have c4 : ∀ (q : Nat) (x y m : Int), q + 3 ≤ 1000000 → ∃ (m' d' : Int) (q' : Nat), q' ≤ q + 3 ∧ Ev (fun k => F80c4 k bs (q : Int) x y m d) (((m', d', ()), ()), ((bs, (q' : Int), ()), ())) := fun q x y m hq => by
    obtain ⟨v, _, h2⟩ := pick_ev hb (show q ≤ 1000000000 by omega) 20
    by_cases c0 : v = 0
    · obtain ⟨u, _, h3⟩ := one_ev hb (show q + 1 ≤ 1000000000 by omega) [4000001, -4000001] (by simp)
      refine ⟨m, u, q + 1 + 1, by omega, Ev.step 1 (fun k => F80c4_eq k _ _ _ _ _ _) (Ev.bind h2 ?_)⟩
      simp only [c0, beq_self_eq_true, if_true]
      exact Ev.bind h3 (Ev.step 1 (fun k => F80c6_eq k _ _ _ _ _ _) (Ev.now _))
    · refine ⟨m, d, q + 1, by omega, Ev.step 1 (fun k => F80c4_eq k _ _ _ _ _ _) (Ev.bind h2 ?_)⟩
      simp only [beq_eq_false_iff_ne.2 c0, Bool.false_eq_true, if_false]
      exact Ev.step 1 (fun k => F80c6_eq k _ _ _ _ _ _) (Ev.now _)
  obtain ⟨v, _, h2⟩ := pick_ev hb (show q ≤ 1000000000 by omega) 20
  by_cases c0 : v = 0
  · obtain ⟨u, _, h3⟩ := one_ev hb (show q + 1 ≤ 1000000000 by omega) [120001, -120001] (by simp)
    obtain ⟨m', d', q', hq', h4⟩ := c4 (q + 1 + 1) 0 0 u (by omega)
    refine ⟨m', d', q', by omega, Ev.step 2 (fun k => F80_eq k _ _) (Ev.bind h1 (Ev.bind h2 ?_))⟩
    simp only [c0, beq_self_eq_true, if_true]
    exact Ev.bind h3 h4
  · obtain ⟨m', d', q', hq', h4⟩ := c4 (q + 1) 0 0 m (by omega)
    refine ⟨m', d', q', by omega, Ev.step 2 (fun k => F80_eq k _ _) (Ev.bind h1 (Ev.bind h2 ?_))⟩
    simp only [beq_eq_false_iff_ne.2 c0, Bool.false_eq_true, if_false]
    exact h4
theorem valueOf_ev {p : Nat} (hp : p + 700 ≤ 1000000) (kd : Int) : ∃ (k0 : Int) (y n : Bool) (l : List Int) (s day mo da : Int) (t : ByteArray) (q : Nat), l.length ≤ 100 ∧ t.size ≤ 100 ∧ q ≤ p + 700 ∧ Ev (fun k => F50 k bs (p : Int) kd) (((k0, y, n, l, s, day, mo, da, t, ()), ()), ((bs, (q : Int), ()), (), ())) := by
  by_cases c1 : kd = 1
  · obtain ⟨v, _, h1⟩ := pick_ev hb (show p ≤ 1000000000 by omega) 2
    refine ⟨1, (v == 0), false, [], 0, 0, 0, 0, ByteArray.empty, p + 1, by simp, by decide, by omega, Ev.step 2 (fun k => F50_eq k _ _ _) ?_⟩
    simp only [c1, beq_self_eq_true, if_true]
    exact Ev.bind h1 (Ev.bind (Ev.step 2 (fun k => F81_eq k _) (Ev.now _)) (Ev.now _))
  by_cases c2 : kd = 2
  · obtain ⟨z, s, q, hz, _, hq, h1⟩ := l14Dec_ev hb (p := p) (by omega)
    have hl := z16 hz
    refine ⟨2, false, decide (z < 0), digs z.natAbs, (s : Int), 0, 0, 0, ByteArray.empty, q, by omega, by decide, by omega, Ev.step 2 (fun k => F50_eq k _ _ _) ?_⟩
    simp only [c2, show ((2 : Int) == 1) = false from rfl, beq_self_eq_true, Bool.false_eq_true, if_false, if_true]
    exact Ev.bind h1 (Ev.bind (Ev.step 2 (fun k => F82_eq k _ _ _) (Ev.now _)) (Ev.now _))
  by_cases c3 : kd = 3
  · obtain ⟨v, q, hq, h1⟩ := day_ev hb (p := p) (by omega)
    refine ⟨3, false, false, [], 0, v, 0, 0, ByteArray.empty, q, by simp, by decide, by omega, Ev.step 2 (fun k => F50_eq k _ _ _) ?_⟩
    simp only [c3, show ((3 : Int) == 1) = false from rfl, show ((3 : Int) == 2) = false from rfl, beq_self_eq_true, Bool.false_eq_true, if_false, if_true]
    exact Ev.bind h1 (Ev.now _)
  by_cases c4 : kd = 4
  · obtain ⟨m, d, q, hq, h1⟩ := span_ev hb (p := p) (by omega)
    refine ⟨4, false, false, [], 0, 0, m, d, ByteArray.empty, q, by simp, by decide, by omega, Ev.step 2 (fun k => F50_eq k _ _ _) ?_⟩
    simp only [c4, show ((4 : Int) == 1) = false from rfl, show ((4 : Int) == 2) = false from rfl, show ((4 : Int) == 3) = false from rfl, beq_self_eq_true, Bool.false_eq_true, if_false, if_true]
    exact Ev.bind h1 (Ev.now _)
  by_cases c5 : kd = 5
  · obtain ⟨t, ht, h1⟩ := word_ev hb (p := p) (by omega)
    refine ⟨5, false, false, [], 0, 0, 0, 0, t, p + 1, by simp, ht, by omega, Ev.step 2 (fun k => F50_eq k _ _ _) ?_⟩
    simp only [c5, show ((5 : Int) == 1) = false from rfl, show ((5 : Int) == 2) = false from rfl, show ((5 : Int) == 3) = false from rfl, show ((5 : Int) == 4) = false from rfl, beq_self_eq_true, Bool.false_eq_true, if_false, if_true]
    exact Ev.bind h1 (Ev.now _)
  · refine ⟨0, false, false, [], 0, 0, 0, 0, ByteArray.empty, p, by simp, by decide, by omega, Ev.step 2 (fun k => F50_eq k _ _ _) ?_⟩
    simp only [beq_eq_false_iff_ne.2 c1, beq_eq_false_iff_ne.2 c2, beq_eq_false_iff_ne.2 c3, beq_eq_false_iff_ne.2 c4, beq_eq_false_iff_ne.2 c5, Bool.false_eq_true, if_false]
    exact Ev.now _
theorem value_ev {p : Nat} (hp : p + 800 ≤ 1000000) : ∃ (k0 : Int) (y n : Bool) (l : List Int) (s day mo da : Int) (t : ByteArray) (q : Nat), l.length ≤ 100 ∧ t.size ≤ 100 ∧ q ≤ p + 800 ∧ Ev (fun k => F75 k bs (p : Int)) (((k0, y, n, l, s, day, mo, da, t, ()), ()), ((bs, (q : Int), ()), ())) := by
  obtain ⟨v, _, h1⟩ := pick_ev hb (show p ≤ 1000000000 by omega) 6
  obtain ⟨k0, y, n, l, s, day, mo, da, t, q, hl, ht, hq, h2⟩ := valueOf_ev hb (p := p + 1) (by omega) v
  exact ⟨k0, y, n, l, s, day, mo, da, t, q, hl, ht, by omega, Ev.step 2 (fun k => F75_eq k _ _) (Ev.bind h1 (Ev.bind h2 (Ev.now _)))⟩
theorem anyValue_ev {p : Nat} (hp : p + 3000 ≤ 1000000) : ∃ (k0 : Int) (y n : Bool) (l : List Int) (s day mo da : Int) (t : ByteArray) (q : Nat), l.length ≤ 100 ∧ t.size ≤ 100 ∧ q ≤ p + 3000 ∧ Ev (fun k => F48 k bs (p : Int)) (((k0, y, n, l, s, day, mo, da, t, ()), ()), ((bs, (q : Int), ()), ())) := by
  obtain ⟨k0, y, n, l, s, day, mo, da, t, q, hl, ht, hq, h1⟩ := value_ev hb (p := p) (by omega)
  obtain ⟨v, _, h2⟩ := pick_ev hb (show q ≤ 1000000000 by omega) 30
  by_cases c0 : v = 0
  · obtain ⟨u, _, h3⟩ := one_ev hb (show q + 1 ≤ 1000000000 by omega) [-1, 6, 1, 2] (by simp)
    refine ⟨u, y, n, l, s, day, mo, da, t, q + 1 + 1, hl, ht, by omega, Ev.step 2 (fun k => F48_eq k _ _) (Ev.bind h1 (Ev.bind h2 ?_))⟩
    simp only [c0, beq_self_eq_true, if_true]
    exact Ev.bind h3 (Ev.step 1 (fun k => F48c15_eq k _ _ _ _ _ _ _ _ _ _ _ _ _ _ _ _ _ _ _ _) (Ev.now _))
  by_cases c1 : v = 1
  · obtain ⟨u, hu, h3⟩ := of_ev hb (show q + 1 ≤ 1000000000 by omega) [(⟨#[116, 104, 105, 114, 116, 101, 101, 110, 32, 98, 121, 116, 101]⟩ : ByteArray), (⟨#[97, 10]⟩ : ByteArray), (⟨#[127]⟩ : ByteArray), (⟨#[120]⟩ : ByteArray)] (by simp) (by simp)
    have hu2 : u.size ≤ 100 := by
      simp only [List.mem_cons, List.not_mem_nil, or_false] at hu
      rcases hu with rfl | rfl | rfl | rfl <;> decide
    refine ⟨k0, y, n, l, s, day, mo, da, u, q + 1 + 1, hl, hu2, by omega, Ev.step 2 (fun k => F48_eq k _ _) (Ev.bind h1 (Ev.bind h2 ?_))⟩
    simp only [c1, show ((1 : Int) == 0) = false from rfl, beq_self_eq_true, Bool.false_eq_true, if_false, if_true]
    exact Ev.bind h3 (Ev.step 1 (fun k => F48c15_eq k _ _ _ _ _ _ _ _ _ _ _ _ _ _ _ _ _ _ _ _) (Ev.now _))
  by_cases c2 : v = 2
  · obtain ⟨n', l', s', q', hl', hq', h3⟩ := anyDec_ev hb (p := q + 1) (by omega)
    refine ⟨k0, y, n', l', s', day, mo, da, t, q', hl', ht, by omega, Ev.step 2 (fun k => F48_eq k _ _) (Ev.bind h1 (Ev.bind h2 ?_))⟩
    simp only [c2, show ((2 : Int) == 0) = false from rfl, show ((2 : Int) == 1) = false from rfl, beq_self_eq_true, Bool.false_eq_true, if_false, if_true]
    exact Ev.bind h3 (Ev.step 1 (fun k => F48c15_eq k _ _ _ _ _ _ _ _ _ _ _ _ _ _ _ _ _ _ _ _) (Ev.now _))
  by_cases c3 : v = 3
  · obtain ⟨u, q', hq', h3⟩ := anyDay_ev hb (p := q + 1) (by omega)
    refine ⟨k0, y, n, l, s, u, mo, da, t, q', hl, ht, by omega, Ev.step 2 (fun k => F48_eq k _ _) (Ev.bind h1 (Ev.bind h2 ?_))⟩
    simp only [c3, show ((3 : Int) == 0) = false from rfl, show ((3 : Int) == 1) = false from rfl, show ((3 : Int) == 2) = false from rfl, beq_self_eq_true, Bool.false_eq_true, if_false, if_true]
    exact Ev.bind h3 (Ev.step 1 (fun k => F48c15_eq k _ _ _ _ _ _ _ _ _ _ _ _ _ _ _ _ _ _ _ _) (Ev.now _))
  by_cases c4 : v = 4
  · refine ⟨k0, true, n, l, s, day, mo, da, t, q + 1, hl, ht, by omega, Ev.step 2 (fun k => F48_eq k _ _) (Ev.bind h1 (Ev.bind h2 ?_))⟩
    simp only [c4, show ((4 : Int) == 0) = false from rfl, show ((4 : Int) == 1) = false from rfl, show ((4 : Int) == 2) = false from rfl, show ((4 : Int) == 3) = false from rfl, beq_self_eq_true, Bool.false_eq_true, if_false, if_true]
    exact Ev.step 1 (fun k => F48c15_eq k _ _ _ _ _ _ _ _ _ _ _ _ _ _ _ _ _ _ _ _) (Ev.now _)
  by_cases c5 : v = 5
  · obtain ⟨m', d', q', hq', h3⟩ := anySpan_ev hb (p := q + 1) (by omega)
    refine ⟨k0, y, n, l, s, day, m', d', t, q', hl, ht, by omega, Ev.step 2 (fun k => F48_eq k _ _) (Ev.bind h1 (Ev.bind h2 ?_))⟩
    simp only [c5, show ((5 : Int) == 0) = false from rfl, show ((5 : Int) == 1) = false from rfl, show ((5 : Int) == 2) = false from rfl, show ((5 : Int) == 3) = false from rfl, show ((5 : Int) == 4) = false from rfl, beq_self_eq_true, Bool.false_eq_true, if_false, if_true]
    exact Ev.bind h3 (Ev.step 1 (fun k => F48c15_eq k _ _ _ _ _ _ _ _ _ _ _ _ _ _ _ _ _ _ _ _) (Ev.now _))
  · refine ⟨k0, y, n, l, s, day, mo, da, t, q + 1, hl, ht, by omega, Ev.step 2 (fun k => F48_eq k _ _) (Ev.bind h1 (Ev.bind h2 ?_))⟩
    simp only [beq_eq_false_iff_ne.2 c0, beq_eq_false_iff_ne.2 c1, beq_eq_false_iff_ne.2 c2, beq_eq_false_iff_ne.2 c3, beq_eq_false_iff_ne.2 c4, beq_eq_false_iff_ne.2 c5, Bool.false_eq_true, if_false]
    exact Ev.step 1 (fun k => F48c15_eq k _ _ _ _ _ _ _ _ _ _ _ _ _ _ _ _ _ _ _ _) (Ev.now _)
end
theorem drawCmp_ev (code : List Int) (w : ∀ y ∈ code, 0 ≤ y ∧ y ≤ 255) : ∃ (k1 : Int) (y1 n1 : Bool) (l1 : List Int) (s1 d1 m1 a1 : Int) (t1 : ByteArray) (k2 : Int) (y2 n2 : Bool) (l2 : List Int) (s2 d2 m2 a2 : Int) (t2 : ByteArray), l1.length ≤ 100 ∧ t1.size ≤ 100 ∧ l2.length ≤ 100 ∧ t2.size ≤ 100 ∧ Ev (fun k => F24 k code) (((k1, y1, n1, l1, s1, d1, m1, a1, t1, ()), (k2, y2, n2, l2, s2, d2, m2, a2, t2, ()), ()), ((), ())) := by
  obtain ⟨bs, hb, h1⟩ := open_ev code w
  obtain ⟨k1, y1, n1, l1, s1, d1, m1, a1, t1, q, hl1, ht1, hq, h2⟩ := anyValue_ev hb (p := 0) (by omega)
  obtain ⟨v, _, h3⟩ := pick_ev hb (show q ≤ 1000000000 by omega) 3
  by_cases c : v > 0
  · obtain ⟨k2, y2, n2, l2, s2, d2, m2, a2, t2, q2, hl2, ht2, hq2, h4⟩ := valueOf_ev hb (p := q + 1) (by omega) k1
    refine ⟨k1, y1, n1, l1, s1, d1, m1, a1, t1, k2, y2, n2, l2, s2, d2, m2, a2, t2, hl1, ht1, hl2, ht2, Ev.step 2 (fun k => F24_eq k _) (Ev.bind h1 (Ev.bind h2 (Ev.bind h3 ?_)))⟩
    simp only [c, decide_true, if_true]
    exact Ev.bind h4 (Ev.now _)
  · obtain ⟨k2, y2, n2, l2, s2, d2, m2, a2, t2, q2, hl2, ht2, hq2, h4⟩ := anyValue_ev hb (p := q + 1) (by omega)
    refine ⟨k1, y1, n1, l1, s1, d1, m1, a1, t1, k2, y2, n2, l2, s2, d2, m2, a2, t2, hl1, ht1, hl2, ht2, Ev.step 2 (fun k => F24_eq k _) (Ev.bind h1 (Ev.bind h2 (Ev.bind h3 ?_)))⟩
    simp only [c, decide_false, Bool.false_eq_true, if_false]
    exact Ev.bind h4 (Ev.now _)
theorem drawOrder_ev (code : List Int) (w : ∀ y ∈ code, 0 ≤ y ∧ y ≤ 255) : ∃ (k1 : Int) (y1 n1 : Bool) (l1 : List Int) (s1 d1 m1 a1 : Int) (t1 : ByteArray) (k2 : Int) (y2 n2 : Bool) (l2 : List Int) (s2 d2 m2 a2 : Int) (t2 : ByteArray), l1.length ≤ 100 ∧ t1.size ≤ 100 ∧ l2.length ≤ 100 ∧ t2.size ≤ 100 ∧ Ev (fun k => F27 k code) (((k1, y1, n1, l1, s1, d1, m1, a1, t1, ()), (k2, y2, n2, l2, s2, d2, m2, a2, t2, ()), ()), ((), ())) := by
  obtain ⟨k1, y1, n1, l1, s1, d1, m1, a1, t1, k2, y2, n2, l2, s2, d2, m2, a2, t2, hl1, ht1, hl2, ht2, h⟩ := drawCmp_ev code w
  exact ⟨k1, y1, n1, l1, s1, d1, m1, a1, t1, k2, y2, n2, l2, s2, d2, m2, a2, t2, hl1, ht1, hl2, ht2, Ev.step 2 (fun k => F27_eq k _) (Ev.bind h (Ev.now _))⟩
end Go.Proofs.YthpgglegdhjihaaGreatDoor.R
end

section
/-! Rf: decimals in order, as whole numbers with a scale: what the functions answer. -/
set_option autoImplicit false
set_option linter.unusedSimpArgs false
set_option linter.unusedVariables false
namespace Go.Proofs.YthpgglegdhjihaaGreatDoor.R
open Go.Rf
/-- are two decimals written alike? -/
def alike (n1 : Bool) (l1 : List Int) (s1 : Int) (n2 : Bool) (l2 : List Int) (s2 : Int) : Bool := (s1 == s2) && ((n1 == n2) && decide (l1 = l2))
theorem alike_self (n : Bool) (l : List Int) (s : Int) : alike n l s n l s = true := by simp [alike]
theorem digs_inj {a b : Nat} (h : digs a = digs b) : a = b := by
  have h1 := VI_digs a
  have h2 := VI_digs b
  rw [h] at h1
  omega
theorem alike_D {z1 z2 : Int} {s1 s2 : Nat} : alike (decide (z1 < 0)) (digs z1.natAbs) (s1 : Int) (decide (z2 < 0)) (digs z2.natAbs) (s2 : Int) = decide (z1 = z2 ∧ s1 = s2) := by
  unfold alike
  by_cases h : z1 = z2 ∧ s1 = s2
  · obtain ⟨rfl, rfl⟩ := h
    simp
  · rw [decide_eq_false h]
    by_cases hs : s1 = s2
    · have hz : z1 ≠ z2 := fun e => h ⟨e, hs⟩
      have : ¬ (decide (z1 < 0) = decide (z2 < 0) ∧ digs z1.natAbs = digs z2.natAbs) := by
        rintro ⟨h1, h2⟩
        have h3 := digs_inj h2
        have h4 : (z1 < 0) ↔ (z2 < 0) := by simpa using h1
        omega
      by_cases hd : decide (z1 < 0) = decide (z2 < 0)
      · simp only [hd, beq_self_eq_true, Bool.true_and, decide_eq_false (fun e => this ⟨hd, e⟩), Bool.and_false]
      · rw [beq_eq_false_iff_ne.2 hd, Bool.false_and, Bool.and_false]
    · have : ((s1 : Int) == (s2 : Int)) = false := by rw [beq_eq_false_iff_ne]; omega
      rw [this, Bool.false_and]
section
variable (n1 : Bool) (l1 : List Int) (s1 : Int) (n2 : Bool) (l2 : List Int) (s2 : Int)
end
section
variable {z1 z2 : Int} {s1 s2 : Nat} (h1 : z1.natAbs < 10 ^ 30) (h2 : z2.natAbs < 10 ^ 30) (t1 : s1 ≤ 12) (t2 : s2 ≤ 12)
include h1 h2 t1 t2
end
theorem okD {z : Int} {s : Nat} (h : z.natAbs < 10 ^ 30) (t : s ≤ 12) : Ev (fun k => F51 k (decide (z < 0)) (digs z.natAbs) (s : Int)) ((true, ()), (((), (), (), ()), ())) := by
  have o1 : (digs z.natAbs).length ≤ 1048576 := by have := len16 h; omega
  have := DecOk_ev (decide (z < 0)) (digs z.natAbs) (s : Int) o1
  rwa [decOk_D h t] at this
theorem mk_fine {z : Int} {s : Nat} (h : z.natAbs < 10 ^ 30) : mk z s = (D z s, 0, ()) := if_pos h
theorem mk_over {z : Int} {s : Nat} (h : ¬ z.natAbs < 10 ^ 30) : mk z s = ((false, [], 0, ()), 3, ()) := if_neg h
theorem u8_of {y : Int} (h : wfT (.int .u8) y) : 0 ≤ y ∧ y ≤ 255 := by
  have h : (Lit.int .u8 y).wf = true := h
  simp [Lit.wf, IntKind.min, IntKind.max, IntKind.bits, IntKind.signed] at h
  omega
theorem cmpZ_eq (x : Int) : cmpZ x x = 0 := by unfold cmpZ; rw [if_neg (by omega), if_pos rfl]
theorem cmpZ_zero {x y : Int} : cmpZ x y = 0 ↔ x = y := by
  unfold cmpZ
  constructor
  · intro h
    split at h
    · omega
    · split at h
      · assumption
      · omega
  · rintro rfl
    rw [if_neg (by omega), if_pos rfl]
theorem cmpZ_swap (x y : Int) : cmpZ y x = -cmpZ x y := by
  unfold cmpZ
  (repeat' split) <;> omega
theorem cmpZ_range (x y : Int) : cmpZ x y = -1 ∨ cmpZ x y = 0 ∨ cmpZ x y = 1 := by
  unfold cmpZ
  (repeat' split) <;> simp
end Go.Proofs.YthpgglegdhjihaaGreatDoor.R
end

section
/-! Rf: the law FnValueCmp, with no machine in sight. -/
set_option autoImplicit false
set_option linter.unusedSimpArgs false
namespace Go.Proofs.YthpgglegdhjihaaGreatDoor.R
open Go.Rf
theorem FnValueCmp : PureFnValueCmp := by
  intro code w
  have w8 : ∀ y ∈ code, 0 ≤ y ∧ y ≤ 255 := fun y hy => u8_of (w.2 y hy)
  have fin : Ev (fun k => F6 k code) ((true, ()), ((), ())) := by
    refine Ev.step 2 (fun k => F6_eq k _) ?_
    by_cases hlen : code.length > 1048576
    · simp only [decide_eq_true (show (code.length : Int) > 1048576 by omega), if_true]
      exact Ev.now _
    simp only [decide_eq_false (show ¬ (code.length : Int) > 1048576 by omega), Bool.false_eq_true, if_false]
    obtain ⟨k1, y1, n1, l1, s1, d1, m1, a1, t1, k2, y2, n2, l2, s2, d2, m2, a2, t2, hl1, ht1, hl2, ht2, hd⟩ := drawCmp_ev code w8
    have im := ValueCmp_im k1 y1 n1 l1 s1 d1 m1 a1 t1 k2 y2 n2 l2 s2 d2 m2 a2 t2 (by omega) (by omega) (by omega) (by omega)
    have sp := ValueCmp_sp k1 y1 n1 l1 s1 d1 m1 a1 t1 k2 y2 n2 l2 s2 d2 m2 a2 t2 (by omega) (by omega) (by omega) (by omega)
    have mi := ValueCmp_im k2 y2 n2 l2 s2 d2 m2 a2 t2 k1 y1 n1 l1 s1 d1 m1 a1 t1 (by omega) (by omega) (by omega) (by omega)
    have nl := ValueCmp_im k1 y1 n1 l1 s1 d1 m1 a1 t1 0 false false [] 0 0 0 0 ByteArray.empty (by omega) (by omega) (by simp) (by decide)
    have oi := ValueOk_ev k1 y1 n1 l1 s1 d1 m1 a1 t1 (by omega) (by omega)
    have os : Ev (fun k => F26 k k1 y1 n1 l1 s1 d1 m1 a1 t1) ((vOk k1 y1 n1 l1 s1 d1 m1 a1 t1, ()), (((), (), (), (), (), (), (), (), (), ()), ())) := Ev.step 2 (fun k => F26_eq k _ _ _ _ _ _ _ _ _) (Ev.bind (l4Ok_ev k1 y1 n1 l1 s1 d1 m1 a1 t1 (by omega) (by omega)) (Ev.now _))
    have or := ValueOrder_im k1 y1 n1 l1 s1 d1 m1 a1 t1 k2 y2 n2 l2 s2 d2 m2 a2 t2 (by omega) (by omega) (by omega) (by omega)
    have e0 : vCan k1 y1 n1 l1 s1 d1 m1 a1 t1 0 false false [] 0 0 0 0 ByteArray.empty = false := by
      unfold vCan
      by_cases h : k1 = 0
      · simp [h]
      · simp [h]
    rw [e0] at nl
    refine Ev.bind hd (Ev.bind im (Ev.bind sp ?_))
    simp only [beq_self_eq_true, bne_self_eq_false, Bool.not_true, Bool.false_eq_true, if_false]
    refine Ev.bind oi (Ev.bind os ?_)
    simp only [beq_self_eq_true, Bool.not_true, Bool.false_eq_true, if_false]
    refine Ev.bind mi (Ev.bind nl ?_)
    cases hc : vCan k1 y1 n1 l1 s1 d1 m1 a1 t1 k2 y2 n2 l2 s2 d2 m2 a2 t2 with
    | false =>
      have hc2 : vCan k2 y2 n2 l2 s2 d2 m2 a2 t2 k1 y1 n1 l1 s1 d1 m1 a1 t1 = false := by
        rw [Bool.eq_false_iff] at hc ⊢
        intro h
        refine hc ?_
        unfold vCan at h ⊢
        simp only [Bool.and_eq_true, bne_iff_ne, beq_iff_eq] at h ⊢
        exact ⟨⟨h.1.2, h.1.1⟩, by omega, by omega⟩
      have w0 : IntKind.i64.wrap (0 - 0) = 0 := by decide
      unfold vCmp
      simp only [hc, hc2, w0, Bool.false_eq_true, if_false, beq_self_eq_true, if_true, Bool.not_false]
      exact Ev.now _
    | true =>
      have hh := hc
      unfold vCan at hh
      simp only [Bool.and_eq_true, bne_iff_ne, beq_iff_eq] at hh
      obtain ⟨⟨o1, o2⟩, z1, rfl⟩ := hh
      have hc2 : vCan k1 y2 n2 l2 s2 d2 m2 a2 t2 k1 y1 n1 l1 s1 d1 m1 a1 t1 = true := by
        unfold vCan
        simp only [o1, o2, beq_self_eq_true, bne_iff_ne.2 z1, Bool.and_self]
      have sw := o_swap (v := ⟨k1, y1, n1, l1, s1, d1, m1, a1, t1⟩) (w := ⟨k1, y2, n2, l2, s2, d2, m2, a2, t2⟩) o1 o2
      have rg := o_range (v := ⟨k1, y1, n1, l1, s1, d1, m1, a1, t1⟩) (w := ⟨k1, y2, n2, l2, s2, d2, m2, a2, t2⟩) o1 o2
      unfold Vl.o vo at sw rg
      simp only [if_true] at sw rg
      have e1 : vCmp k1 y1 n1 l1 s1 d1 m1 a1 t1 k1 y2 n2 l2 s2 d2 m2 a2 t2 = vc k1 y1 n1 l1 s1 d1 m1 a1 t1 y2 n2 l2 s2 d2 m2 a2 t2 := by unfold vCmp; rw [if_pos hc]
      have e2 : vCmp k1 y2 n2 l2 s2 d2 m2 a2 t2 k1 y1 n1 l1 s1 d1 m1 a1 t1 = vc k1 y2 n2 l2 s2 d2 m2 a2 t2 y1 n1 l1 s1 d1 m1 a1 t1 := by unfold vCmp; rw [if_pos hc2]
      have e3 : vOrd k1 y1 n1 l1 s1 d1 m1 a1 t1 k1 y2 n2 l2 s2 d2 m2 a2 t2 = vc k1 y1 n1 l1 s1 d1 m1 a1 t1 y2 n2 l2 s2 d2 m2 a2 t2 := by unfold vOrd vo; rw [o1, o2]; simp only [Bool.and_self, if_true]
      have e4 : IntKind.i64.wrap (0 - vc k1 y1 n1 l1 s1 d1 m1 a1 t1 y2 n2 l2 s2 d2 m2 a2 t2) = vc k1 y2 n2 l2 s2 d2 m2 a2 t2 y1 n1 l1 s1 d1 m1 a1 t1 := by rw [wrap64 (by omega) (by omega)]; omega
      rw [e3] at or
      simp only [hc, hc2, e1, e2, e4, beq_self_eq_true, if_true, Bool.not_true, Bool.not_false, Bool.false_eq_true, if_false]
      refine Ev.bind or ?_
      simp only [beq_self_eq_true]
      exact Ev.now _
  obtain ⟨k, hk⟩ := Ev.get fin
  exact ⟨k, _, hk⟩
end Go.Proofs.YthpgglegdhjihaaGreatDoor.R
end

section
/-- The row, under a short name, for the claim. -/
theorem Go.Proofs.YthpgglegdhjihaaGreatDoor.fnValueCmp_holds : Go.Proofs.YthpgglegdhjihaaGreatDoor.Rows.FnValueCmpCardSaid := Go.Proofs.YthpgglegdhjihaaGreatDoor.fnValueCmp.card Go.Proofs.YthpgglegdhjihaaGreatDoor.R.FnValueCmp
end
