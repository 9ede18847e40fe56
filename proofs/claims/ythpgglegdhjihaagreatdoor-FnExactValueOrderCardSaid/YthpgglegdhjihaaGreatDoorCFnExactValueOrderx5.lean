/- A part of the proof that the law FnExactValueOrder answers true for every input: contracts of functions that it reaches, or its plain law. -/
import Derived.Lib.Strings
import Derived.Lib.Bytealg
import Derived.Test.YthpgglegdhjihaaGreatDoorCFnExactValueOrderx0
import Derived.Test.YthpgglegdhjihaaGreatDoorCFnExactValueOrderx2
import Derived.Test.YthpgglegdhjihaaGreatDoorCFnExactValueOrderx3
import Derived.Test.YthpgglegdhjihaaGreatDoorCFnExactValueOrderx4
section
/-! Rf, decimals: figures; what is in order. -/
set_option autoImplicit false
set_option linter.unusedSimpArgs false
namespace Go.Proofs.YthpgglegdhjihaaGreatDoor.R
open Go.Rf
theorem toIntS_ev (l : List Int) (h : l.length ≤ 1048576) : Ev (fun k => F18 k l) ((l, ()), ((), ())) := by
  refine Ev.step 2 (fun k => F18_eq k l) ?_
  have c : (decide (0 ≤ (l.length : Int)) && decide ((l.length : Int) ≤ (l.length : Int)) && decide ((l.length : Int) ≤ (17592186044416 : Int))) = true := by simp; omega
  simp only [c, if_true]
  have := copy_loop (L := fun k x3 i => F18c3 k l x3 i) (x0 := l) (g := fun _ y => some y) (f := id) (fin := fun x => ((x, ()), ((), ()))) (h := id) (by omega) (fun k x3 i => F18c3_eq k l x3 i) (fun y _ => Ev.now y)
    (List.replicate (l.length : Int).toNat (0 : Int)) (by simp)
  simpa using this
theorem eqIntS_ev (l : List Int) (h : l.length ≤ 1048576) : Ev (fun k => F22 k l l) ((true, ()), ((), (), ())) := by
  refine Ev.step 2 (fun k => F22_eq k l l) ?_
  simp only [bne_self_eq_false, Bool.false_eq_true, if_false]
  exact same_loop (L := fun k i => F22c4 k l l i) (x0 := l) (g := fun _ y1 y2 => some (y1 == y2)) (p := id) (no := ((false, ()), ((), (), ()))) (h := fun _ => true) (by omega) (fun k i => F22c4_eq k l l i) (fun y _ => by
    simp only [beq_self_eq_true]
    exact ⟨Ev.now _, rfl⟩)
theorem szIntS_ev (l : List Int) (hlen : l.length ≤ 9223372036854775807) (b : Int) (h0 : 0 ≤ b) (hb : b ≤ 1048576) : ∃ r, Ev (fun k => F89 k l b) r ∧ (r.1.1 < 0 ∨ (0 ≤ r.1.1 ∧ r.1.1 ≤ b ∧ l.length ≤ 1048576)) := by
  have st : ∀ {r}, Ev (fun _ => if decide (IntKind.i64.wrap (b - (l.length : Int)) < (0 : Int)) = true then some (((-1 : Int), ()), ((), (), ())) else some (((IntKind.i64.wrap (b - (l.length : Int))), ()), ((), (), ()))) r → Ev (fun k => F89 k l b) r := fun h => Ev.step 2 (fun k => F89_eq k l b) h
  rw [wrap64 (by omega) (by omega)] at st
  by_cases hn : b - (l.length : Int) < 0
  · refine ⟨(((-1 : Int), ()), ((), (), ())), st ?_, .inl (by decide : (-1 : Int) < 0)⟩
    simp only [hn, decide_true, if_true]
    exact Ev.now _
  · refine ⟨(((b - (l.length : Int)), ()), ((), (), ())), st ?_, .inr ?_⟩
    · have : decide (b - (l.length : Int) < 0) = false := by simp; omega
      simp only [this, Bool.false_eq_true, if_false]
      exact Ev.now _
    · exact ⟨by show 0 ≤ b - (l.length : Int); omega, by show b - (l.length : Int) ≤ b; omega, by omega⟩
theorem l1In_ev (n lo hi : Int) : Ev (fun k => F56 k n lo hi) ((within n lo hi, ()), ((), (), (), ())) := by
  refine Ev.step 2 (fun k => F56_eq k n lo hi) ?_
  unfold within
  cases decide (n ≥ lo) with
  | true => exact Ev.now _
  | false => exact Ev.now _
theorem in_ev (n lo hi : Int) : Ev (fun k => F45 k n lo hi) ((within n lo hi, ()), ((), (), (), ())) := by
  refine Ev.step 2 (fun k => F45_eq k n lo hi) ?_
  unfold within
  cases decide (n ≥ lo) with
  | true => exact Ev.now _
  | false => exact Ev.now _
/-! ### figures -/
theorem l1Dec_ev : ∀ n : Nat, n ≤ 1000000000000000000 → Ev (fun k => F130 k (n : Int)) ((⟨(Lib.decDigits n).toArray⟩, ()), ((), ())) := by
  intro n
  induction n using Nat.strongRecOn with
  | _ n ih =>
    intro hn
    have c1 : decide ((n : Int) < (-9223372036854775807 : Int)) = false := decide_eq_false (by omega)
    have c2 : decide ((n : Int) < 0) = false := decide_eq_false (by omega)
    refine Ev.step 2 (fun k => F130_eq k n) ?_
    simp only [c1, c2, Bool.false_eq_true, if_false]
    by_cases h : n < 10
    · have c3 : decide ((n : Int) < 10) = true := decide_eq_true (by omega)
      rw [Lib.decDigits, dif_pos h]
      simp only [c3, if_true, bytesOf_digit h]
      exact Ev.now _
    · have c3 : decide ((n : Int) < 10) = false := decide_eq_false (by omega)
      have e1 : IntKind.i64.wrap ((n : Int).tdiv 10) = ((n / 10 : Nat) : Int) := by
        rw [Int.tdiv_eq_ediv_of_nonneg (by omega), wrap64 (by omega) (by omega)]
        omega
      have e2 : (n : Int).tmod 10 = ((n % 10 : Nat) : Int) := by
        rw [Int.tmod_eq_emod_of_nonneg (by omega)]
        omega
      have hl := decDigits_len 18 (n / 10) (by omega)
      rw [Lib.decDigits, dif_neg h]
      simp only [c3, Bool.false_eq_true, if_false, e1, e2, bytesOf_digit (show n % 10 < 10 by omega)]
      refine Ev.bind (ih (n / 10) (by omega) (by omega)) ?_
      have hb : Nat.ble ((Lib.decDigits (n / 10)).length + [UInt8.ofNat (48 + n % 10)].length) 9223372036854775807 = true := Nat.ble_eq_true_of_le (by simp; omega)
      simp only [bytes_size, hb, if_true, bytes_append]
      exact Ev.now _
theorem l1Wide_ev {d : Int} (h : 0 ≤ d ∧ d ≤ 9999) : Ev (fun k => F131 k d 4) ((⟨(fig4 d).toArray⟩, ()), ((), (), ())) := by
  obtain ⟨n, rfl⟩ : ∃ n : Nat, d = (n : Int) := ⟨d.toNat, by omega⟩
  have hl := itoa_len4 h
  refine Ev.step 2 (fun k => F131_eq k _ _) (Ev.bind (l1Dec_ev n (by omega)) ?_)
  have key : ∀ (m : Nat) (x : List UInt8), x.length + m = 4 ∨ (m = 0 ∧ 4 ≤ x.length) → Ev (fun k => F131c2 k 4 ⟨x.toArray⟩) ((⟨(Lib.repeatL [48] m ++ x).toArray⟩, ()), ((), (), ())) := by
    intro m
    induction m with
    | zero =>
      intro x hx
      have c : decide ((x.length : Int) < 4) = false := decide_eq_false (by omega)
      refine Ev.step 1 (fun k => F131c2_eq k _ _) ?_
      simp only [bytes_size, c, Bool.false_eq_true, if_false]
      exact Ev.now _
    | succ m ih =>
      intro x hx
      have c : decide ((x.length : Int) < 4) = true := decide_eq_true (by omega)
      have hb : Nat.ble ([(48 : UInt8)].length + x.length) 9223372036854775807 = true := Nat.ble_eq_true_of_le (by simp; omega)
      refine Ev.step 1 (fun k => F131c2_eq k _ _) ?_
      have e : (⟨#[48]⟩ : ByteArray) = ⟨[(48 : UInt8)].toArray⟩ := rfl
      simp only [e, bytes_size, c, if_true, hb, bytes_append]
      have := ih ([48] ++ x) (by simp; omega)
      have e2 : Lib.repeatL [48] m ++ ([48] ++ x) = Lib.repeatL [48] (m + 1) ++ x := by
        rw [Lib.repeatL_add, Lib.repeatL_one, List.append_assoc]
      rw [e2] at this
      exact this
  have := key (4 - (Lib.itoa (n : Int)).length) (Lib.decDigits n) (by rw [itoa_nat] at hl ⊢; omega)
  unfold fig4
  rw [itoa_nat] at this ⊢
  exact this
theorem l1Figures_ev {l : List Int} (hr : InR l) (hl : l.length ≤ 1000000) : Ev (fun k => F108 k l) ((textL l, ()), ((), ())) := by
  refine Ev.step 2 (fun k => F108_eq k l) ?_
  rcases Nat.eq_zero_or_pos l.length with h0 | h0
  · obtain rfl := List.eq_nil_of_length_eq_zero h0
    exact Ev.now _
  · obtain ⟨n, hn⟩ : ∃ n, l.length = n + 1 := ⟨l.length - 1, by omega⟩
    have c : ((l.length : Int) == 0) = false := len0_false h0
    have hlt : n < l.length := by omega
    have rn := hr.at hlt
    obtain ⟨d, hd⟩ : ∃ d : Nat, l.getD n 0 = (d : Int) := ⟨(l.getD n 0).toNat, by omega⟩
    simp only [c, Bool.false_eq_true, if_false, pred_len hn (by omega), ge0, if_true, Int.toNat_natCast, getI_of hlt, Option.bind_some, hd]
    refine Ev.bind (l1Dec_ev d (by omega)) ?_
    have w : IntKind.i64.wrap ((l.length : Int) - 2) = (n : Int) - 1 := by rw [wrap64 (by omega) (by omega)]; omega
    rw [w, textL_pos (by intro e; subst e; simp at h0)]
    have key : ∀ m, m ≤ n → Ev (fun k => F108c5 k l ⟨(figs (l.drop m)).toArray⟩ ((m : Int) - 1)) ((⟨(figs l).toArray⟩, ()), ((), ())) := by
      intro m
      induction m with
      | zero =>
        intro _
        exact Ev.step 1 (fun k => F108c5_eq k _ _ _) (Ev.now _)
      | succ m ih =>
        intro hm
        have e : ((m + 1 : Nat) : Int) - 1 = (m : Int) := by omega
        have hge : decide ((m : Int) ≥ 0) = true := by simp
        have hml : m < l.length := by omega
        have h1 := figs_len (l := l.drop (m + 1)) (fun d hd => hr d (List.mem_of_mem_drop hd))
        have h2 := fig4_len (hr.at hml)
        have hb : Nat.ble ((figs (l.drop (m + 1))).length + (fig4 (l.getD m 0)).length) 9223372036854775807 = true := Nat.ble_eq_true_of_le (by rw [List.length_drop] at h1; omega)
        rw [e]
        refine Ev.step 1 (fun k => F108c5_eq k _ _ _) ?_
        simp only [hge, if_true, ge0, Int.toNat_natCast, getI_of hml, Option.bind_some]
        refine Ev.bind (l1Wide_ev (hr.at hml)) ?_
        simp only [bytes_size, hb, if_true, bytes_append, ← figs_drop (show m + 1 < l.length by omega)]
        rw [wrap64 (by omega) (by omega)]
        exact ih (by omega)
    have := key n (Nat.le_refl _)
    rw [figs_last hn, hd, itoa_nat] at this
    exact this
theorem l1Long_ev {l : List Int} (hr : InR l) (hl : l.length ≤ 1000000) : Ev (fun k => F92 k l) ((long l, ()), ((), ())) := by
  refine Ev.step 2 (fun k => F92_eq k l) ?_
  unfold long
  by_cases h : l.length = 0
  · have c : ((l.length : Int) == 0) = true := by simp [h]
    simp only [c, if_true, h]
    exact Ev.now _
  · have c : ((l.length : Int) == 0) = false := len0_false (Nat.pos_of_ne_zero h)
    simp only [c, h, Bool.false_eq_true, if_false]
    exact Ev.bind (l1Figures_ev hr hl) (Ev.now _)
theorem text_ev {l : List Int} (hr : InR l) (hl : l.length ≤ 1000000) : Ev (fun k => F107 k l) ((textL l, ()), ((), ())) := by
  refine Ev.step 1 (fun k => F107_eq k l) ?_
  have : textR (l, ()) = some ((textL l, ()), ((), ())) := if_pos (limbsOk_of hr hl)
  rw [this]
  exact Ev.now _
theorem digits_ev {l : List Int} (hr : InR l) (hl : l.length ≤ 1000000) : Ev (fun k => F88 k l) ((long l, ()), ((), ())) := by
  refine Ev.step 2 (fun k => F88_eq k l) ?_
  unfold long
  by_cases h : l.length = 0
  · have c : ((l.length : Int) == 0) = true := by simp [h]
    simp only [c, if_true, h]
    exact Ev.now _
  · have c : ((l.length : Int) == 0) = false := len0_false (Nat.pos_of_ne_zero h)
    simp only [c, h, Bool.false_eq_true, if_false]
    exact Ev.bind (text_ev hr hl) (Ev.now _)
/-! ### in order -/
theorem idx_ev (l : List Int) (h : l.length ≤ 1048576) : ∃ r, Ev (fun k => F107074 k l) r ∧ decide (r.1.1 ≥ (0 : Int)) = !rangeOk l := by
  obtain ⟨r, h1, h2⟩ := find_loop (L := fun k i => F107074c2 k l (l.length : Int) i) (n := l.length) (no := fun i => (((i : Int), ()), ((), (), ()))) (yes := (((-1 : Int), ()), ((), (), ()))) (c := fun i => within (l.getD i 0) 0 9999) (fun i hi hc => by
      refine Ev.step 1 (fun k => F107074c2_eq k l _ i) ?_
      simp only [lt_true hi, ge0, if_true, Int.toNat_natCast, getI_of hi, Option.bind_some]
      refine Ev.bind (Ev.step 2 (fun k => F106_eq k _) (Ev.bind (in_ev _ _ _) (Ev.now _))) ?_
      simp only [hc, Bool.not_false, if_true]
      exact Ev.now _) (fun i hi hc r hr => by
      refine Ev.step 1 (fun k => F107074c2_eq k l _ i) ?_
      simp only [lt_true hi, ge0, if_true, Int.toNat_natCast, getI_of hi, Option.bind_some]
      refine Ev.bind (Ev.step 2 (fun k => F106_eq k _) (Ev.bind (in_ev _ _ _) (Ev.now _))) ?_
      simp only [hc, Bool.not_true, Bool.false_eq_true, if_false]
      rw [wrap_succ (by omega)]
      exact hr) (by
      refine Ev.step 1 (fun k => F107074c2_eq k l _ l.length) ?_
      simp only [lt_false (Nat.le_refl l.length), Bool.false_eq_true, if_false]
      exact Ev.now _)
  refine ⟨r, Ev.step 2 (fun k => F107074_eq k l) h1, ?_⟩
  unfold rangeOk
  rcases h2 with ⟨h2, rfl⟩ | ⟨h2, i, _, rfl⟩
  · rw [h2]; rfl
  · rw [h2]; simp
theorem has_ev (l : List Int) (h : l.length ≤ 1048576) : Ev (fun k => F107043 k l) ((!rangeOk l, ()), ((), (), ())) := by
  obtain ⟨r, h1, h2⟩ := idx_ev l h
  refine Ev.step 2 (fun k => F107043_eq k l) (Ev.bind h1 ?_)
  simp only [h2]
  exact Ev.now _
theorem BigOk_ev (neg : Bool) (l : List Int) (h : l.length ≤ 1048576) : Ev (fun k => F87 k neg l) ((bOk neg l, ()), (((), (), ()), ())) := by
  refine Ev.step 2 (fun k => F87_eq k neg l) ?_
  unfold bOk lastOk
  by_cases h16 : l.length ≤ 16
  · have c16 : decide ((l.length : Int) ≤ 16) = true := decide_eq_true (by omega)
    rcases Nat.eq_zero_or_pos l.length with h0 | h0
    · have c0 : ((l.length : Int) == 0) = true := by simp [h0]
      have cg : decide ((l.length : Int) > 0) = false := by simp [h0]
      simp only [c16, h16, c0, cg, h0, decide_true, if_true, Bool.true_and]
      cases neg with
      | true =>
        simp only [Bool.not_true, Bool.false_eq_true, if_false, Bool.and_false]
        exact Ev.now _
      | false =>
        simp only [Bool.not_false, if_true, Bool.and_true]
        refine Ev.bind (has_ev l h) ?_
        simp only [Bool.not_not]
        exact Ev.now _
    · obtain ⟨n, hn⟩ : ∃ n, l.length = n + 1 := ⟨l.length - 1, by omega⟩
      have c0 : ((l.length : Int) == 0) = false := len0_false h0
      have hne : ¬ l.length = 0 := by omega
      have hlt : n < l.length := by omega
      have e : l.length - 1 = n := by omega
      simp only [c16, h16, c0, hne, e, gt_true h0, pred_len hn (by omega), ge0, decide_true, if_true, Bool.true_and, Bool.false_eq_true, if_false, Int.toNat_natCast, getI_of hlt, Option.bind_some]
      cases hz : (l.getD n 0 != 0) with
      | true =>
        simp only [if_true, Bool.and_true]
        refine Ev.bind (has_ev l h) ?_
        simp only [Bool.not_not]
        exact Ev.now _
      | false =>
        simp only [Bool.false_eq_true, if_false, Bool.and_false]
        exact Ev.now _
  · have c16 : decide ((l.length : Int) ≤ 16) = false := decide_eq_false (by omega)
    simp only [c16, h16, decide_false, Bool.false_and, Bool.false_eq_true, if_false]
    exact Ev.now _
theorem l1Ok_ev (neg : Bool) (l : List Int) (h : l.length ≤ 1048576) : Ev (fun k => F91 k neg l) ((bOk neg l, ()), (((), (), ()), ())) := by
  refine Ev.step 2 (fun k => F91_eq k neg l) ?_
  by_cases h16 : l.length ≤ 16
  · have c16 : decide ((l.length : Int) > 16) = false := decide_eq_false (by omega)
    have loop : ∀ {q : Bool}, (l.length = 0 → q = true) → (∀ n, l.length = n + 1 → q = (l.getD n 0 != 0)) → Ev (fun k => F91c4 k neg l 0) ((rangeOk l && q, ()), (((), (), ()), ())) := by
      intro q q0 q1
      have := all_loop' (L := fun k i => F91c4 k neg l i) (n := l.length) (c := fun i => within (l.getD i 0) 0 9999) (no := ((false, ()), (((), (), ()), ()))) (yes := ((q, ()), (((), (), ()), ()))) (fun i hi hc => by
        refine Ev.step 1 (fun k => F91c4_eq k _ _ _) ?_
        simp only [lt_true hi, ge0, if_true, Int.toNat_natCast, getI_of hi, Option.bind_some]
        refine Ev.bind (l1In_ev _ _ _) ?_
        simp only [hc, Bool.not_false, if_true]
        exact Ev.now _) (fun i hi hc r hr => by
        refine Ev.step 1 (fun k => F91c4_eq k _ _ _) ?_
        simp only [lt_true hi, ge0, if_true, Int.toNat_natCast, getI_of hi, Option.bind_some]
        refine Ev.bind (l1In_ev _ _ _) ?_
        simp only [hc, Bool.not_true, Bool.false_eq_true, if_false]
        rw [wrap_succ (by omega)]
        exact hr) (fun _ => by
        refine Ev.step 1 (fun k => F91c4_eq k _ _ _) ?_
        simp only [lt_false (Nat.le_refl l.length), Bool.false_eq_true, if_false]
        rcases Nat.eq_zero_or_pos l.length with h0 | h0
        · have c0 : ((l.length : Int) == 0) = true := by simp [h0]
          simp only [c0, if_true, q0 h0]
          exact Ev.now _
        · obtain ⟨n, hn⟩ : ∃ n, l.length = n + 1 := ⟨l.length - 1, by omega⟩
          have c0 : ((l.length : Int) == 0) = false := len0_false h0
          have hlt : n < l.length := by omega
          simp only [c0, Bool.false_eq_true, if_false, pred_len hn (by omega), ge0, if_true, Int.toNat_natCast, getI_of hlt, Option.bind_some, q1 n hn]
          exact Ev.now _)
      unfold rangeOk
      cases hall : (List.range l.length).all (fun i => within (l.getD i 0) 0 9999) with
      | true =>
        rw [hall] at this
        simpa using this
      | false =>
        rw [hall] at this
        simpa using this
    unfold bOk lastOk
    simp only [c16, h16, decide_true, Bool.true_and, Bool.false_eq_true, if_false]
    by_cases h0 : l.length = 0
    · have c0 : ((l.length : Int) == 0) = true := by simp [h0]
      cases neg with
      | true =>
        simp only [c0, h0, if_true, Bool.not_true, Bool.and_false]
        exact Ev.now _
      | false =>
        have := loop (q := true) (fun _ => rfl) (fun n hn => by omega)
        simpa only [h0, if_true, Bool.not_false, Bool.false_eq_true, if_false] using this
    · have c0 : ((l.length : Int) == 0) = false := len0_false (Nat.pos_of_ne_zero h0)
      have := loop (q := (l.getD (l.length - 1) 0 != 0)) (fun e => absurd e h0) (fun n hn => by rw [hn]; rfl)
      cases neg with
      | true => simpa only [c0, h0, if_true, Bool.false_eq_true, if_false] using this
      | false => simpa only [h0, Bool.false_eq_true, if_false] using this
  · have c16 : decide ((l.length : Int) > 16) = true := decide_eq_true (by omega)
    unfold bOk
    simp only [c16, h16, decide_false, Bool.false_and, if_true]
    exact Ev.now _
end Go.Proofs.YthpgglegdhjihaaGreatDoor.R
end

section
/-! Rf, decimals: compared; the law's helpers. -/
set_option autoImplicit false
namespace Go.Proofs.YthpgglegdhjihaaGreatDoor.R
open Go.Rf
theorem DecOk_ev (neg : Bool) (l : List Int) (s : Int) (h : l.length ≤ 1048576) : Ev (fun k => F51 k neg l s) ((decOk neg l s, ()), (((), (), (), ()), ())) := by
  refine Ev.step 2 (fun k => F51_eq k neg l s) (Ev.bind (BigOk_ev neg l h) ?_)
  unfold decOk
  cases hb : bOk neg l with
  | false => exact Ev.now _
  | true =>
    obtain ⟨h16, hr, _, _⟩ := bOk_of hb
    simp only [if_true, Bool.true_and]
    refine Ev.bind (digits_ev hr (by omega)) ?_
    cases decide (long l ≤ 30) with
    | false => exact Ev.now _
    | true =>
      simp only [if_true, Bool.true_and]
      exact Ev.bind (in_ev _ _ _) (Ev.now _)
theorem l2Ok_ev (neg : Bool) (l : List Int) (s : Int) (h : l.length ≤ 1048576) : Ev (fun k => F58 k neg l s) ((decOk neg l s, ()), (((), (), (), ()), ())) := by
  refine Ev.step 2 (fun k => F58_eq k neg l s) (Ev.bind (l1Ok_ev neg l h) ?_)
  unfold decOk
  cases hb : bOk neg l with
  | false => exact Ev.now _
  | true =>
    obtain ⟨h16, hr, _, _⟩ := bOk_of hb
    simp only [if_true, Bool.true_and]
    refine Ev.bind (l1Long_ev hr (by omega)) ?_
    cases decide (long l ≤ 30) with
    | false => exact Ev.now _
    | true =>
      simp only [if_true, Bool.true_and]
      exact Ev.bind (l1In_ev _ _ _) (Ev.now _)
/-- a decimal in order: its number -/
def num (l : List Int) : Nat := (VI l).toNat
theorem num_spec {l : List Int} (h : InR l) : VI l = (num l : Int) := by
  have := VI_nonneg h
  unfold num
  omega
theorem digs_num {l : List Int} (h : InR l) (t : Trim l) : digs (num l) = l := digs_VI h t
theorem num_pos {neg : Bool} {l : List Int} (h : bOk neg l = true) (hn : neg = true) : 0 < num l := by
  obtain ⟨_, hr, ht, h0⟩ := bOk_of h
  have := VI_pos hr ht (fun e => by have := h0 e; rw [hn] at this; cases this)
  have := num_spec hr
  omega
theorem num_lt {l : List Int} (h : InR l) (hl : l.length ≤ 16) : num l < 10000 ^ 16 := by
  have h1 : VI l < ((10000 ^ l.length : Nat) : Int) := by
    rw [Int.natCast_pow]
    exact VI_lt h
  have h2 := num_spec h
  have h3 : (10000 : Nat) ^ l.length ≤ 10000 ^ 16 := Nat.pow_le_pow_right (by omega) hl
  exact Nat.lt_of_lt_of_le (by omega) h3
theorem at_len {V m : Nat} (hV : V < 10000 ^ 16) (hm : m ≤ 24) : (digs (V * 10 ^ m)).length ≤ 40 := by
  refine digs_len_le ?_
  have h1 : 10 ^ m ≤ 10 ^ 24 := Nat.pow_le_pow_right (by omega) hm
  have h2 : V * 10 ^ m ≤ V * 10 ^ 24 := Nat.mul_le_mul_left V h1
  have h3 : V * 10 ^ 24 < 10000 ^ 16 * 10 ^ 24 := Nat.mul_lt_mul_of_pos_right hV (Nat.pow_pos (by omega))
  have h4 : 10000 ^ 16 * 10 ^ 24 ≤ 10000 ^ 40 := by decide
  omega
theorem at_ev {neg : Bool} {l : List Int} {s m : Nat} (hr : InR l) (hl : l.length ≤ 16) (hm : m ≤ 24) : Ev (fun k => F96 k neg l (s : Int) ((s + m : Nat) : Int)) (((neg, digs (num l * 10 ^ m), ()), ()), (((), (), (), ()), (), ())) := by
  have w : IntKind.i64.wrap (((s + m : Nat) : Int) - (s : Int)) = (m : Int) := by rw [wrap64 (by omega) (by omega)]; omega
  have hmul := mul_ev (a := l) (b := digs (10 ^ m)) hr (digs_spec _).1 (by omega) (by have := ten_len m; omega)
  have e : (VI l * VI (digs (10 ^ m))).toNat = num l * 10 ^ m := by
    rw [VI_digs, num_spec hr]
    rfl
  rw [e] at hmul
  refine Ev.step 2 (fun k => F96_eq k _ _ _ _) (Ev.bind (Ev.step 2 (fun k => F112_eq k _ _) (Ev.now _)) ?_)
  simp only [w]
  exact Ev.bind (ten_ev m (by omega)) (Ev.bind hmul (Ev.now _))
theorem l2At_ev {neg : Bool} {l : List Int} {s m : Nat} (hr : InR l) (hl : l.length ≤ 16) (hm : m ≤ 24) : Ev (fun k => F94 k neg l (s : Int) ((s + m : Nat) : Int)) ((digs (num l * 10 ^ m), ()), (((), (), (), ()), (), ())) := by
  have w : IntKind.i64.wrap (((s + m : Nat) : Int) - (s : Int)) = (m : Int) := by rw [wrap64 (by omega) (by omega)]; omega
  have hmul := l1MulAbs_ev (a := l) (b := digs (10 ^ m)) hr (digs_spec _).1 (by omega) (by have := ten_len m; omega)
  have e : (VI l * VI (digs (10 ^ m))).toNat = num l * 10 ^ m := by
    rw [VI_digs, num_spec hr]
    rfl
  rw [e] at hmul
  refine Ev.step 2 (fun k => F94_eq k _ _ _ _) ?_
  simp only [w]
  exact Ev.bind (l1TenAbs_ev m (by omega)) (Ev.bind hmul (Ev.now _))
/-- a sum with signs -/
def sSum (na : Bool) (A : Nat) (nb : Bool) (B : Nat) : Bool × Nat := if na = nb then (na, A + B) else if B ≤ A then (na, A - B) else (nb, B - A)
theorem cmpI_ge {A B : Nat} : decide (cmpI A B ≥ 0) = decide (B ≤ A) := by
  unfold cmpI
  split
  · rw [decide_eq_false (by omega), decide_eq_false (by omega)]
  · split
    · rw [decide_eq_true (by omega), decide_eq_true (by omega)]
    · rw [decide_eq_true (by omega), decide_eq_true (by omega)]
theorem sAdd_ev {na nb : Bool} {A B : Nat} (la : (digs A).length ≤ 100000) (lb : (digs B).length ≤ 100000) : Ev (fun k => F97 k na (digs A) nb (digs B)) ((((sSum na A nb B).1, digs (sSum na A nb B).2, ()), ()), (((), (), ()), ((), (), ()), ())) := by
  obtain ⟨ra, ta, va⟩ := digs_spec A
  obtain ⟨rb, tb, vb⟩ := digs_spec B
  refine Ev.step 2 (fun k => F97_eq k _ _ _ _) ?_
  unfold sSum
  by_cases hn : na = nb
  · subst hn
    have hadd := add_ev ra rb la lb
    have e : (VI (digs A) + VI (digs B)).toNat = A + B := by rw [va, vb]; omega
    rw [e] at hadd
    simp only [beq_self_eq_true, if_true]
    exact Ev.bind hadd (Ev.now _)
  · have c : (na == nb) = false := by simp [hn]
    simp only [c, hn, Bool.false_eq_true, if_false]
    refine Ev.bind (cmp_ev ra rb ta tb va vb (by omega) (by omega)) ?_
    simp only [cmpI_ge]
    by_cases hle : B ≤ A
    · have hsub := sub_ev ra rb tb la (by rw [va, vb]; omega)
      have e : (VI (digs A) - VI (digs B)).toNat = A - B := by rw [va, vb]; omega
      rw [e] at hsub
      simp only [hle, decide_true, if_true]
      exact Ev.bind hsub (Ev.now _)
    · have hsub := sub_ev rb ra ta lb (by rw [va, vb]; omega)
      have e : (VI (digs B) - VI (digs A)).toNat = B - A := by rw [va, vb]; omega
      rw [e] at hsub
      simp only [hle, decide_false, Bool.false_eq_true, if_false]
      exact Ev.bind hsub (Ev.now _)
theorem sign_ev {neg : Bool} {A : Nat} : Ev (fun k => F99 k neg (digs A)) ((if A = 0 then 0 else if neg = true then -1 else 1, ()), (((), (), ()), ())) := by
  by_cases h : A = 0
  · subst h
    rw [digs_zero, if_pos rfl]
    exact Ev.step 2 (fun k => F99_eq k _ _) (Ev.now _)
  · refine Ev.step 2 (fun k => F99_eq k _ _) ?_
    have c : (((digs A).length : Int) == 0) = false := len0_false (Nat.pos_of_ne_zero (fun e => h (digs_nil.1 (List.eq_nil_of_length_eq_zero e))))
    simp only [c, h, Bool.false_eq_true, if_false]
    cases neg with
    | true => exact Ev.now _
    | false => exact Ev.now _
/-- numbers with signs compared -/
def sCmp (na : Bool) (A : Nat) (nb : Bool) (B : Nat) : Int := if na = nb then if na = true then cmpI B A else cmpI A B else if na = true then -1 else 1
theorem l1Cmp_ev {na nb : Bool} {A B : Nat} (la : (digs A).length ≤ 100000) (lb : (digs B).length ≤ 100000) : Ev (fun k => F95 k na (digs A) nb (digs B)) ((sCmp na A nb B, ()), (((), (), ()), ((), (), ()), ())) := by
  obtain ⟨ra, ta, va⟩ := digs_spec A
  obtain ⟨rb, tb, vb⟩ := digs_spec B
  refine Ev.step 2 (fun k => F95_eq k _ _ _ _) ?_
  unfold sCmp
  cases na with
  | true =>
    cases nb with
    | true => exact Ev.bind (l1CmpAbs_ev rb ra tb ta vb va (by omega)) (Ev.now _)
    | false => exact Ev.now _
  | false =>
    cases nb with
    | true => exact Ev.now _
    | false => exact Ev.bind (l1CmpAbs_ev ra rb ta tb va vb (by omega)) (Ev.now _)
theorem sSum_sCmp {na nb : Bool} {A B : Nat} (ha : na = true → 0 < A) (hb : nb = true → 0 < B) : (if (sSum na A (!nb) B).2 = 0 then 0 else if (sSum na A (!nb) B).1 = true then -1 else 1 : Int) = sCmp na A nb B := by
  unfold sSum sCmp
  cases na with
  | true =>
    have h1 := ha rfl
    cases nb with
    | true =>
      simp only [Bool.not_true, Bool.true_eq_false, if_false, if_true]
      rcases Nat.lt_trichotomy A B with h | h | h
      · rw [if_neg (show ¬ B ≤ A by omega), cmpI_gt h]
        simp only [Bool.false_eq_true, if_false]
        rw [if_neg (by omega)]
      · subst h
        simp [cmpI_eq]
      · rw [if_pos (show B ≤ A by omega), cmpI_lt h]
        simp only [if_true]
        rw [if_neg (by omega)]
    | false =>
      simp only [Bool.not_false, if_true, Bool.true_eq_false, if_false]
      rw [if_neg (by omega)]
  | false =>
    cases nb with
    | true =>
      have h2 := hb rfl
      simp only [Bool.not_true, if_true, Bool.false_eq_true, if_false]
      rw [if_neg (by omega)]
    | false =>
      simp only [Bool.not_false, Bool.false_eq_true, if_false, if_true]
      rcases Nat.lt_trichotomy A B with h | h | h
      · rw [if_neg (show ¬ B ≤ A by omega), cmpI_lt h]
        simp only [if_true]
        rw [if_neg (by omega)]
      · subst h
        simp [cmpI_eq]
      · rw [if_pos (show B ≤ A by omega), cmpI_gt h]
        simp only [Bool.false_eq_true, if_false]
        rw [if_neg (by omega)]
/-- how decimals in order compare -/
def dCmp (n1 : Bool) (l1 : List Int) (s1 : Nat) (n2 : Bool) (l2 : List Int) (s2 : Nat) : Int := sCmp n1 (num l1 * 10 ^ (max s1 s2 - s1)) n2 (num l2 * 10 ^ (max s1 s2 - s2))
section
variable {n1 n2 : Bool} {l1 l2 : List Int} {s1 s2 : Nat}
theorem cmpD_ev (h1 : bOk n1 l1 = true) (h2 : bOk n2 l2 = true) (hs1 : s1 ≤ 12) (hs2 : s2 ≤ 12) : Ev (fun k => F68 k n1 l1 (s1 : Int) n2 l2 (s2 : Int)) ((dCmp n1 l1 s1 n2 l2 s2, ()), (((), (), (), ()), ((), (), (), ()), ())) := by
  obtain ⟨a16, ra, ta, _⟩ := bOk_of h1
  obtain ⟨b16, rb, tb, _⟩ := bOk_of h2
  have em : (if (s2 : Int) > (s1 : Int) then (s2 : Int) else (s1 : Int)) = ((max s1 s2 : Nat) : Int) := by split <;> omega
  have e1 : max s1 s2 = s1 + (max s1 s2 - s1) := by omega
  have e2 : max s1 s2 = s2 + (max s1 s2 - s2) := by omega
  have k1 := at_len (num_lt ra a16) (show max s1 s2 - s1 ≤ 24 by omega)
  have k2 := at_len (num_lt rb b16) (show max s1 s2 - s2 ≤ 24 by omega)
  have a1 := at_ev (neg := n1) (s := s1) (m := max s1 s2 - s1) ra a16 (by omega)
  have a2 := at_ev (neg := n2) (s := s2) (m := max s1 s2 - s2) rb b16 (by omega)
  rw [← e1] at a1
  rw [← e2] at a2
  refine Ev.step 2 (fun k => F68_eq k _ _ _ _ _ _) ?_
  simp only [em]
  refine Ev.bind a1 (Ev.bind a2 (Ev.bind (Ev.step 2 (fun k => F98_eq k _ _) (Ev.now _)) (Ev.bind (sAdd_ev (by omega) (by omega)) (Ev.bind sign_ev ?_))))
  unfold dCmp
  have hp : ∀ m : Nat, 0 < 10 ^ m := fun m => Nat.pow_pos (by omega)
  rw [← sSum_sCmp (fun e => Nat.mul_pos (num_pos h1 e) (hp _)) (fun e => Nat.mul_pos (num_pos h2 e) (hp _))]
  exact Ev.now _
theorem l2Cmp_ev (h1 : bOk n1 l1 = true) (h2 : bOk n2 l2 = true) (hs1 : s1 ≤ 12) (hs2 : s2 ≤ 12) : Ev (fun k => F64 k n1 l1 (s1 : Int) n2 l2 (s2 : Int)) ((dCmp n1 l1 s1 n2 l2 s2, ()), (((), (), (), ()), ((), (), (), ()), ())) := by
  obtain ⟨a16, ra, ta, _⟩ := bOk_of h1
  obtain ⟨b16, rb, tb, _⟩ := bOk_of h2
  have hg : Ev (fun k => F93 k (s1 : Int) (s2 : Int)) ((((max s1 s2 : Nat) : Int), ()), ((), (), ())) := by
    refine Ev.step 2 (fun k => F93_eq k _ _) ?_
    by_cases h : s1 > s2
    · have c : decide ((s1 : Int) > (s2 : Int)) = true := decide_eq_true (by omega)
      have e : max s1 s2 = s1 := by omega
      simp only [c, if_true, e]
      exact Ev.now _
    · have c : decide ((s1 : Int) > (s2 : Int)) = false := decide_eq_false (by omega)
      have e : max s1 s2 = s2 := by omega
      simp only [c, Bool.false_eq_true, if_false, e]
      exact Ev.now _
  have e1 : max s1 s2 = s1 + (max s1 s2 - s1) := by omega
  have e2 : max s1 s2 = s2 + (max s1 s2 - s2) := by omega
  have k1 := at_len (num_lt ra a16) (show max s1 s2 - s1 ≤ 24 by omega)
  have k2 := at_len (num_lt rb b16) (show max s1 s2 - s2 ≤ 24 by omega)
  have a1 := l2At_ev (neg := n1) (s := s1) (m := max s1 s2 - s1) ra a16 (by omega)
  have a2 := l2At_ev (neg := n2) (s := s2) (m := max s1 s2 - s2) rb b16 (by omega)
  rw [← e1] at a1
  rw [← e2] at a2
  exact Ev.step 2 (fun k => F64_eq k _ _ _ _ _ _) (Ev.bind hg (Ev.bind a1 (Ev.bind a2 (Ev.bind (l1Cmp_ev (by omega) (by omega)) (Ev.now _)))))
end
/-! ### the law's helpers -/
theorem toDec_ev (n : Bool) (l : List Int) (s : Int) (h : l.length ≤ 1048576) : Ev (fun k => F31 k n l s) (((n, l, s, ()), ()), (((), (), (), ()), ())) :=
  Ev.step 2 (fun k => F31_eq k n l s) (Ev.bind (Ev.step 2 (fun k => F66_eq k n l) (Ev.bind (toIntS_ev l h) (Ev.now _))) (Ev.now _))
theorem eqDec_ev (n : Bool) (l : List Int) (s : Int) (h : l.length ≤ 1048576) : Ev (fun k => F34 k n l s n l s) ((true, ()), (((), (), (), ()), ((), (), (), ()), ())) := by
  have hb : Ev (fun k => F72 k n l n l) ((true, ()), (((), (), ()), ((), (), ()), ())) := by
    refine Ev.step 2 (fun k => F72_eq k n l n l) ?_
    simp only [beq_self_eq_true, Bool.not_true, Bool.false_eq_true, if_false]
    exact Ev.bind (eqIntS_ev l h) (Ev.now _)
  refine Ev.step 2 (fun k => F34_eq k n l s n l s) (Ev.bind hb ?_)
  simp only [Bool.not_true, Bool.false_eq_true, if_false, bne_self_eq_false]
  exact Ev.now _
theorem szDec_ev (n : Bool) (l : List Int) (s : Int) (hlen : l.length ≤ 9223372036854775807) (b : Int) (h0 : 0 ≤ b) (hb : b ≤ 1048576) : ∃ r, Ev (fun k => F28 k n l s b) r ∧ (r.1.1 < 0 ∨ (0 ≤ r.1.1 ∧ r.1.1 ≤ b ∧ l.length ≤ 1048576)) := by
  obtain ⟨r, h1, h2⟩ := szIntS_ev l hlen b h0 hb
  rcases h2 with h2 | ⟨h2, h3, h4⟩
  · refine ⟨(((-1 : Int), ()), (((), (), (), ()), (), ())), Ev.step 2 (fun k => F28_eq k n l s b) (Ev.bind (Ev.step 2 (fun k => F55_eq k n l b) (Ev.bind h1 (r := (((-1 : Int), ()), (((), (), ()), (), ()))) ?_)) (by
      have c : decide ((-1 : Int) < 0) = true := by decide
      simp only [c, if_true]
      exact Ev.now _)), .inl (by decide : (-1 : Int) < 0)⟩
    simp only [h2, decide_true, if_true]
    exact Ev.now _
  · have hneg : decide (r.1.1 < 0) = false := decide_eq_false (by omega)
    refine ⟨((r.1.1, ()), (((), (), (), ()), (), ())), Ev.step 2 (fun k => F28_eq k n l s b) (Ev.bind (Ev.step 2 (fun k => F55_eq k n l b) (Ev.bind h1 (r := ((r.1.1, ()), (((), (), ()), (), ()))) ?_)) ?_), .inr ⟨h2, h3, h4⟩⟩
    · simp only [hneg, Bool.false_eq_true, if_false]
      exact Ev.now _
    · simp only [hneg, Bool.false_eq_true, if_false]
      exact Ev.now _
end Go.Proofs.YthpgglegdhjihaaGreatDoor.R
end

section
/-! Rf: values in order, types in order. -/
set_option autoImplicit false
set_option linter.unusedSimpArgs false
set_option linter.unusedVariables false
namespace Go.Proofs.YthpgglegdhjihaaGreatDoor.R
open Go.Rf
def bAt (s : ByteArray) (i : Nat) : Int := match s[i]? with
  | some u => (u.toNat : Int)
  | none => 0
theorem byteAt {s : ByteArray} {i : Nat} (h : i < s.size) : ∃ u : UInt8, s[i]? = some u ∧ bAt s i = (u.toNat : Int) := by
  have : s[i]? = some s[i] := getElem?_pos s i h
  exact ⟨s[i], this, by unfold bAt; rw [this]⟩
def figOk (s : ByteArray) : Bool := (List.range s.size).all fun i => within (bAt s i) 32 126
def textOk (s : ByteArray) : Bool := decide ((s.size : Int) ≤ 12) && figOk s
def noText (s : ByteArray) : Bool := s.toList == (⟨#[]⟩ : ByteArray).toList
def decZ (n : Bool) (l : List Int) (s : Int) : Bool := !n && (((l.length : Int) == 0) && (s == 0))
def dayOk (d : Int) : Bool := within d 1 3652059
def spanOk (m d : Int) : Bool := within m (-120000) 120000 && within d (-4000000) 4000000
/-- nothing but what the kind bears -/
def bareOk (k : Int) (y n : Bool) (l : List Int) (s day mo da : Int) (t : ByteArray) : Bool := ((k == 1) || !y) && (((k == 2) || decZ n l s) && (((k == 3) || (day == 0)) && (((k == 4) || ((mo == 0) && (da == 0))) && ((k == 5) || noText t))))
def bodyOk (k : Int) (n : Bool) (l : List Int) (s day mo da : Int) (t : ByteArray) : Bool := if k = 2 then decOk n l s else if k = 3 then dayOk day else if k = 4 then spanOk mo da else if k = 5 then textOk t else true
def vOk (k : Int) (y n : Bool) (l : List Int) (s day mo da : Int) (t : ByteArray) : Bool := within k 0 5 && (bareOk k y n l s day mo da t && bodyOk k n l s day mo da t)
theorem noText_ok {t : ByteArray} (h : noText t = true) : textOk t = true := by
  have h2 : t.data.toList = [] := by
    have h1 := eq_of_beq h
    rw [Lib.toList_data, Lib.toList_data] at h1
    exact h1
  have h3 : t.size = 0 := by
    show t.data.size = 0
    rw [← Array.length_toList, h2]; rfl
  unfold textOk figOk
  rw [h3]
  rfl
section
variable (k0 : Int) (y n : Bool) (l : List Int) (s day mo da : Int) (t : ByteArray)
theorem l4Zero_ev : Ev (fun k => F90 k n l s) ((decZ n l s, ()), (((), (), (), ()), ())) := by
  refine Ev.step 2 (fun k => F90_eq k _ _ _) (Ev.congr (h := fun _ => some ((decZ n l s, ()), (((), (), (), ()), ()))) (fun _ => ?_) (Ev.now _))
  unfold decZ
  cases n <;> cases h : ((l.length : Int) == 0) <;> simp_all
theorem zero_ev : Ev (fun k => F54 k n l s) ((decZ n l s, ()), (((), (), (), ()), ())) := by
  refine Ev.step 2 (fun k => F54_eq k _ _ _) (Ev.congr (h := fun _ => some ((decZ n l s, ()), (((), (), (), ()), ()))) (fun _ => ?_) (Ev.now _))
  unfold decZ
  cases n <;> cases h : ((l.length : Int) == 0) <;> simp_all
theorem isDay_ev : Ev (fun k => F52 k day) ((dayOk day, ()), ((), ())) := Ev.step 2 (fun k => F52_eq k _) (Ev.bind (in_ev day 1 3652059) (Ev.now _))
theorem l3Is_ev : Ev (fun k => F59 k day) ((dayOk day, ()), ((), ())) := Ev.step 2 (fun k => F59_eq k _) (Ev.bind (l1In_ev day 1 3652059) (Ev.now _))
theorem SpanOk_ev : Ev (fun k => F53 k mo da) ((spanOk mo da, ()), (((), (), ()), ())) := by
  refine Ev.step 2 (fun k => F53_eq k _ _) (Ev.bind (in_ev mo _ _) ?_)
  unfold spanOk
  cases within mo (-120000) 120000 with
  | true => exact Ev.bind (in_ev da _ _) (Ev.now _)
  | false => exact Ev.now _
theorem l3SpanOk_ev : Ev (fun k => F60 k mo da) ((spanOk mo da, ()), (((), (), ()), ())) := by
  refine Ev.step 2 (fun k => F60_eq k _ _) (Ev.bind (l1In_ev mo _ _) ?_)
  unfold spanOk
  cases within mo (-120000) 120000 with
  | true => exact Ev.bind (l1In_ev da _ _) (Ev.now _)
  | false => exact Ev.now _
theorem l4Text_ev (hsz : t.size ≤ 9223372036854775807) : Ev (fun k => F61 k t) ((textOk t, ()), ((), ())) := by
  refine Ev.step 2 (fun k => F61_eq k _) ?_
  have h := all_loop (L := fun k i => F61c2 k t i) (n := t.size) (no := ((false, ()), ((), ()))) (yes := ((decide ((t.size : Int) ≤ 12), ()), ((), ()))) (c := fun i => within (bAt t i) 32 126)
    (fun i hi hc => by
      obtain ⟨u, hu, hb⟩ := byteAt hi
      rw [hb] at hc
      refine Ev.step 1 (fun k => F61c2_eq k _ _) ?_
      simp only [lt_true hi, ge0, if_true, Int.toNat_natCast, hu, Option.bind_some]
      unfold within at hc
      by_cases h1 : (u.toNat : Int) < 32
      · simp only [decide_eq_true h1, if_true]; exact Ev.now _
      · have h2 : (u.toNat : Int) > 126 := by
          refine Decidable.by_contra fun h2 => ?_
          rw [decide_eq_true (show (u.toNat : Int) ≥ 32 by omega), decide_eq_true (show (u.toNat : Int) ≤ 126 by omega)] at hc
          cases hc
        simp only [decide_eq_false h1, decide_eq_true h2, Bool.false_eq_true, if_false, if_true]; exact Ev.now _)
    (fun i hi hc r hr => by
      obtain ⟨u, hu, hb⟩ := byteAt hi
      rw [hb] at hc
      unfold within at hc
      rw [Bool.and_eq_true, decide_eq_true_iff, decide_eq_true_iff] at hc
      refine Ev.step 1 (fun k => F61c2_eq k _ _) ?_
      simp only [lt_true hi, ge0, if_true, Int.toNat_natCast, hu, Option.bind_some, decide_eq_false (show ¬ (u.toNat : Int) < 32 by omega), decide_eq_false (show ¬ (u.toNat : Int) > 126 by omega), Bool.false_eq_true, if_false, wrap_succ (show i < 9223372036854775807 by omega)]
      exact hr)
    (by
      refine Ev.step 1 (fun k => F61c2_eq k _ _) ?_
      simp only [lt_false (Nat.le_refl t.size), Bool.false_eq_true, if_false]
      exact Ev.now _)
  have e : (if (List.range t.size).all (fun i => within (bAt t i) 32 126) = true then ((decide ((t.size : Int) ≤ 12), ()), ((), ())) else ((false, ()), ((), ()))) = ((textOk t, ()), ((), ())) := by
    unfold textOk figOk
    cases (List.range t.size).all (fun i => within (bAt t i) 32 126) <;> simp
  rw [e] at h
  exact h
/-- what is left of a value: nothing -/
def restZ (y n : Bool) (l : List Int) (s day mo da : Int) (t : ByteArray) : Bool := !y && (decZ n l s && ((day == 0) && (((mo == 0) && (da == 0)) && noText t)))
theorem okC21 (b : Bool) : Ev (fun k => F25c21 k k0 y n l s day mo da t b) ((b && restZ y n l s day mo da t, ()), (((), (), (), (), (), (), (), (), (), ()), ())) := by
  refine Ev.step 1 (fun k => F25c21_eq k _ _ _ _ _ _ _ _ _ _) ?_
  unfold restZ noText
  cases b with
  | false => simp only [Bool.false_eq_true, if_false, Bool.false_and]; exact Ev.now _
  | true =>
    cases y with
    | true => simp only [Bool.not_true, Bool.false_eq_true, if_false, if_true, Bool.true_and, Bool.false_and]; exact Ev.now _
    | false =>
      simp only [Bool.not_false, if_true, Bool.true_and]
      refine Ev.bind (zero_ev n l s) (Ev.congr (h := fun _ => some ((decZ n l s && ((day == 0) && (((mo == 0) && (da == 0)) && (t.toList == (⟨#[]⟩ : ByteArray).toList))), ()), (((), (), (), (), (), (), (), (), (), ()), ()))) (fun _ => ?_) (Ev.now _))
      cases decZ n l s <;> cases h1 : (day == 0) <;> cases h2 : (mo == 0) <;> cases h3 : (da == 0) <;> simp
theorem okC17 (hsz : t.size ≤ 9000000000000000000) (t3 : ByteArray) : ∀ (m i : Nat) (b : Bool), i + m = t.size → Ev (fun k => F25c17 k k0 y n l s day mo da t k0 y n l s day mo da t3 b (t.size : Int) (i : Int)) (((b && (List.range' i m).all fun i => within (bAt t i) 32 126) && restZ y n l s day mo da t3, ()), (((), (), (), (), (), (), (), (), (), ()), ())) := by
  intro m
  induction m with
  | zero =>
    intro i b hi
    refine Ev.step 1 (fun k => F25c17_eq k _ _ _ _ _ _ _ _ _ _ _ _ _ _ _ _ _ _ _ _ _) ?_
    simp only [lt_false (show t.size ≤ i by omega), Bool.false_eq_true, if_false]
    have := okC21 k0 y n l s day mo da t3 b
    simpa using this
  | succ m ih =>
    intro i b hi
    obtain ⟨u, hu, hb⟩ := byteAt (s := t) (i := i) (by omega)
    refine Ev.step 1 (fun k => F25c17_eq k _ _ _ _ _ _ _ _ _ _ _ _ _ _ _ _ _ _ _ _ _) ?_
    rw [List.range'_succ, List.all_cons]
    cases b with
    | false =>
      have := ih (i + 1) false (by omega)
      rw [Bool.false_and] at this ⊢
      simp only [lt_true (show i < t.size by omega), if_true, Bool.false_eq_true, if_false, wrap_succ (show i < 9223372036854775807 by omega)]
      exact this
    | true =>
      have := ih (i + 1) (within (bAt t i) 32 126) (by omega)
      have hlt : u.toNat < 256 := UInt8.toNat_lt u
      simp only [lt_true (show i < t.size by omega), ge0, if_true, Int.toNat_natCast, hu, Option.bind_some, wrap64 (show -9223372036854775808 ≤ ((u.toNat : Nat) : Int) by omega) (by omega), wrap_succ (show i < 9223372036854775807 by omega), Bool.true_and]
      refine Ev.bind (in_ev _ _ _) ?_
      rw [← hb]
      exact this
theorem ValueOk_ev (hl : l.length ≤ 1048576) (ht : t.size ≤ 1048576) : Ev (fun k => F25 k k0 y n l s day mo da t) ((vOk k0 y n l s day mo da t, ()), (((), (), (), (), (), (), (), (), (), ()), ())) := by
  refine Ev.step 2 (fun k => F25_eq k _ _ _ _ _ _ _ _ _) ?_
  by_cases h0 : k0 = 0
  · subst h0
    have := okC21 0 y n l s day mo da t true
    have e : vOk 0 y n l s day mo da t = (true && restZ y n l s day mo da t) := by simp [vOk, within, bareOk, bodyOk, restZ]
    rw [e]
    simp only [beq_self_eq_true, if_true]
    exact this
  by_cases h1 : k0 = 1
  · subst h1
    have := okC21 1 false n l s day mo da t true
    have e : vOk 1 y n l s day mo da t = (true && restZ false n l s day mo da t) := by simp [vOk, within, bareOk, bodyOk, restZ]
    rw [e]
    simp only [show ((1 : Int) == 0) = false from rfl, beq_self_eq_true, Bool.false_eq_true, if_false, if_true]
    exact this
  by_cases h2 : k0 = 2
  · subst h2
    have := okC21 2 y false [] 0 day mo da t (decOk n l s)
    have e : vOk 2 y n l s day mo da t = (decOk n l s && restZ y false [] 0 day mo da t) := by
      simp [vOk, within, bareOk, bodyOk, restZ, decZ, Bool.and_comm, Bool.and_assoc]
    rw [e]
    simp only [show ((2 : Int) == 0) = false from rfl, show ((2 : Int) == 1) = false from rfl, beq_self_eq_true, Bool.false_eq_true, if_false, if_true]
    exact Ev.bind (DecOk_ev n l s hl) this
  by_cases h3 : k0 = 3
  · subst h3
    have := okC21 3 y n l s 0 mo da t (dayOk day)
    have e : vOk 3 y n l s day mo da t = (dayOk day && restZ y n l s 0 mo da t) := by
      simp [vOk, within, bareOk, bodyOk, restZ, Bool.and_comm, Bool.and_assoc, Bool.and_left_comm]
    rw [e]
    simp only [show ((3 : Int) == 0) = false from rfl, show ((3 : Int) == 1) = false from rfl, show ((3 : Int) == 2) = false from rfl, beq_self_eq_true, Bool.false_eq_true, if_false, if_true]
    exact Ev.bind (isDay_ev day) this
  by_cases h4 : k0 = 4
  · subst h4
    have := okC21 4 y n l s day 0 0 t (spanOk mo da)
    have e : vOk 4 y n l s day mo da t = (spanOk mo da && restZ y n l s day 0 0 t) := by
      simp [vOk, within, bareOk, bodyOk, restZ, Bool.and_comm, Bool.and_assoc, Bool.and_left_comm]
    rw [e]
    simp only [show ((4 : Int) == 0) = false from rfl, show ((4 : Int) == 1) = false from rfl, show ((4 : Int) == 2) = false from rfl, show ((4 : Int) == 3) = false from rfl, beq_self_eq_true, Bool.false_eq_true, if_false, if_true]
    exact Ev.bind (SpanOk_ev mo da) this
  by_cases h5 : k0 = 5
  · subst h5
    have := okC17 5 y n l s day mo da t (by omega) ⟨#[]⟩ t.size 0 (decide ((t.size : Int) ≤ 12)) (by omega)
    rw [← List.range_eq_range'] at this
    have e : vOk 5 y n l s day mo da t = ((decide ((t.size : Int) ≤ 12) && (List.range t.size).all fun i => within (bAt t i) 32 126) && restZ y n l s day mo da ⟨#[]⟩) := by
      have hn : noText ⟨#[]⟩ = true := by unfold noText; exact beq_self_eq_true _
      simp only [vOk, bareOk, bodyOk, restZ, hn, textOk, figOk]
      simp [within, Bool.and_comm, Bool.and_assoc, Bool.and_left_comm]
    rw [e]
    simp only [show ((5 : Int) == 0) = false from rfl, show ((5 : Int) == 1) = false from rfl, show ((5 : Int) == 2) = false from rfl, show ((5 : Int) == 3) = false from rfl, show ((5 : Int) == 4) = false from rfl, beq_self_eq_true, Bool.false_eq_true, if_false, if_true]
    exact this
  · have := okC21 k0 y n l s day mo da t false
    have e : vOk k0 y n l s day mo da t = (false && restZ y n l s day mo da t) := by
      have : within k0 0 5 = false := by unfold within; simp; omega
      simp [vOk, this]
    rw [e]
    simp only [beq_eq_false_iff_ne.2 h0, beq_eq_false_iff_ne.2 h1, beq_eq_false_iff_ne.2 h2, beq_eq_false_iff_ne.2 h3, beq_eq_false_iff_ne.2 h4, beq_eq_false_iff_ne.2 h5, Bool.false_eq_true, if_false]
    exact this
theorem bare_ev : Ev (fun k => F57 k k0 y n l s day mo da t) ((bareOk k0 y n l s day mo da t, ()), (((), (), (), (), (), (), (), (), (), ()), ())) := by
  refine Ev.step 2 (fun k => F57_eq k _ _ _ _ _ _ _ _ _) ?_
  have hz := l4Zero_ev n l s
  unfold bareOk noText
  have fin : ∀ {g : Nat → Option ((Bool × Unit) × ((Unit × Unit × Unit × Unit × Unit × Unit × Unit × Unit × Unit × Unit) × Unit))} {v}, (∀ k, g k = some v) → Ev g v := fun h => Ev.congr h (Ev.now _)
  by_cases h1 : k0 = 1
  · subst h1
    simp only [bne_self_eq_false, Bool.false_eq_true, if_false, show ((1 : Int) != 2) = true from rfl, show ((1 : Int) != 4) = true from rfl, if_true, show ((1 : Int) == 3) = false from rfl, show ((1 : Int) == 5) = false from rfl]
    refine Ev.bind hz (fin fun _ => ?_)
    cases decZ n l s <;> by_cases g1 : mo = 0 <;> by_cases g2 : da = 0 <;> by_cases g3 : day = 0 <;> simp [g1, g2, g3]
  by_cases h2 : k0 = 2
  · subst h2
    simp only [bne_self_eq_false, Bool.false_eq_true, if_false, show ((2 : Int) != 1) = true from rfl, show ((2 : Int) != 4) = true from rfl, if_true, show ((2 : Int) == 3) = false from rfl, show ((2 : Int) == 5) = false from rfl]
    refine fin fun _ => ?_
    cases y <;> by_cases g1 : mo = 0 <;> by_cases g2 : da = 0 <;> by_cases g3 : day = 0 <;> simp [g1, g2, g3]
  have e1 : (k0 != 1) = true := bne_iff_ne.2 h1
  have e2 : (k0 != 2) = true := bne_iff_ne.2 h2
  have f1 : (k0 == 1) = false := beq_eq_false_iff_ne.2 h1
  have f2 : (k0 == 2) = false := beq_eq_false_iff_ne.2 h2
  simp only [e1, e2, f1, f2, if_true]
  cases y with
  | true =>
    simp only [if_true]
    refine fin fun _ => ?_
    simp
  | false =>
    simp only [Bool.false_eq_true, if_false]
    refine Ev.bind hz (fin fun _ => ?_)
    by_cases h4 : k0 = 4
    · subst h4
      cases decZ n l s <;> by_cases g1 : mo = 0 <;> by_cases g2 : da = 0 <;> by_cases g3 : day = 0 <;> simp [g1, g2, g3]
    · by_cases h3 : k0 = 3
      · subst h3
        cases decZ n l s <;> by_cases g1 : mo = 0 <;> by_cases g2 : da = 0 <;> by_cases g3 : day = 0 <;> simp [g1, g2, g3]
      · by_cases h5 : k0 = 5
        · subst h5
          cases decZ n l s <;> by_cases g1 : mo = 0 <;> by_cases g2 : da = 0 <;> by_cases g3 : day = 0 <;> simp [g1, g2, g3]
        · cases decZ n l s <;> by_cases g1 : mo = 0 <;> by_cases g2 : da = 0 <;> by_cases g3 : day = 0 <;> simp [g1, g2, g3, h3, h4, h5]
theorem l4Ok_ev (hl : l.length ≤ 1048576) (ht : t.size ≤ 1048576) : Ev (fun k => F29 k k0 y n l s day mo da t) ((vOk k0 y n l s day mo da t, ()), (((), (), (), (), (), (), (), (), (), ()), ())) := by
  refine Ev.step 2 (fun k => F29_eq k _ _ _ _ _ _ _ _ _) (Ev.bind (l1In_ev k0 0 5) ?_)
  unfold vOk
  cases hw : within k0 0 5 with
  | false => simp only [Bool.not_false, if_true, Bool.false_and]; exact Ev.now _
  | true =>
    simp only [Bool.not_true, Bool.false_eq_true, if_false, Bool.true_and]
    refine Ev.bind (bare_ev k0 y n l s day mo da t) ?_
    cases hb : bareOk k0 y n l s day mo da t with
    | false => simp only [Bool.not_false, if_true, Bool.false_and]; exact Ev.now _
    | true =>
      simp only [Bool.not_true, Bool.false_eq_true, if_false, Bool.true_and]
      unfold bodyOk
      by_cases h2 : k0 = 2
      · simp only [h2, beq_self_eq_true, if_true]
        exact Ev.bind (l2Ok_ev n l s hl) (Ev.now _)
      by_cases h3 : k0 = 3
      · simp only [h3, show ((3 : Int) == 2) = false from rfl, show ¬ ((3 : Int) = 2) by decide, beq_self_eq_true, Bool.false_eq_true, if_false, if_true]
        exact Ev.bind (l3Is_ev day) (Ev.now _)
      by_cases h4 : k0 = 4
      · simp only [h4, show ((4 : Int) == 2) = false from rfl, show ((4 : Int) == 3) = false from rfl, show ¬ ((4 : Int) = 2) by decide, show ¬ ((4 : Int) = 3) by decide, beq_self_eq_true, Bool.false_eq_true, if_false, if_true]
        exact Ev.bind (l3SpanOk_ev mo da) (Ev.now _)
      simp only [beq_eq_false_iff_ne.2 h2, beq_eq_false_iff_ne.2 h3, beq_eq_false_iff_ne.2 h4, h2, h3, h4, Bool.false_eq_true, if_false]
      by_cases h5 : k0 = 5
      · simp only [h5, if_true]
        exact Ev.bind (l4Text_ev t (by omega)) (Ev.now _)
      · have hnt : noText t = true := by
          unfold bareOk at hb
          rw [beq_eq_false_iff_ne.2 h5] at hb
          simp only [Bool.and_eq_true, Bool.false_or] at hb
          exact hb.2.2.2.2
        have htx := l4Text_ev t (by omega)
        rw [noText_ok hnt] at htx
        simp only [h5, if_false]
        exact Ev.bind htx (Ev.now _)
end
end Go.Proofs.YthpgglegdhjihaaGreatDoor.R
end

section
/-! Rf: values: what the laws ask of them; values that fit types. -/
set_option autoImplicit false
set_option linter.unusedSimpArgs false
set_option linter.unusedVariables false
namespace Go.Proofs.YthpgglegdhjihaaGreatDoor.R
open Go.Rf
def tOk (k dg sc : Int) : Bool := if k = 2 then within dg 1 30 && (within sc 0 12 && decide (sc ≤ dg)) else within k 1 5 && ((dg == 0) && (sc == 0))
/-- a value in order fits a type in order -/
def fits (k : Int) (l : List Int) (s tk dg sc : Int) : Bool := if k = 0 then true else if k ≠ tk then false else if k ≠ 2 then true else (s == sc) && decide (long l ≤ dg)
section
variable (k0 : Int) (y n : Bool) (l : List Int) (s day mo da : Int) (t : ByteArray) (tk dg sc : Int)
theorem vOk_num (h : vOk k0 y n l s day mo da t = true) (h2 : k0 = 2) : decOk n l s = true := by
  unfold vOk bodyOk at h
  rw [if_pos h2] at h
  simp only [Bool.and_eq_true] at h
  exact h.2.2
/-- does a value fit? -/
def vFits : Bool := vOk k0 y n l s day mo da t && (tOk tk dg sc && fits k0 l s tk dg sc)
theorem toValue_ev (hl : l.length ≤ 1048576) : Ev (fun k => F10 k k0 y n l s day mo da t) (((k0, y, n, l, s, day, mo, da, t, ()), ()), (((), (), (), (), (), (), (), (), (), ()), ())) :=
  Ev.step 2 (fun k => F10_eq k _ _ _ _ _ _ _ _ _) (Ev.bind (toDec_ev n l s hl) (Ev.bind (Ev.step 2 (fun k => F32_eq k _ _) (Ev.now _)) (Ev.now _)))
theorem eqValue_ev (hl : l.length ≤ 1048576) : Ev (fun k => F12 k k0 y n l s day mo da t k0 y n l s day mo da t) ((true, ()), (((), (), (), (), (), (), (), (), (), ()), ((), (), (), (), (), (), (), (), (), ()), ())) := by
  have hsp : Ev (fun k => F35 k mo da mo da) ((true, ()), (((), (), ()), ((), (), ()), ())) := by
    refine Ev.step 2 (fun k => F35_eq k _ _ _ _) ?_
    simp only [bne_self_eq_false, Bool.false_eq_true, if_false]
    exact Ev.now _
  refine Ev.step 2 (fun k => F12_eq k _ _ _ _ _ _ _ _ _ _ _ _ _ _ _ _ _ _) ?_
  simp only [bne_self_eq_false, beq_self_eq_true, Bool.not_true, Bool.false_eq_true, if_false]
  refine Ev.bind (eqDec_ev n l s hl) ?_
  simp only [Bool.not_true, Bool.false_eq_true, if_false]
  refine Ev.bind hsp ?_
  simp only [Bool.not_true, Bool.false_eq_true, if_false]
  exact Ev.now _
theorem szValue_ev (hlen : l.length ≤ 9223372036854775807) (htl : t.size ≤ 9223372036854775807) (b : Int) (h0 : 0 ≤ b) (hb : b ≤ 1048576) : ∃ r, Ev (fun k => F8 k k0 y n l s day mo da t b) r ∧ (r.1.1 < 0 ∨ (0 ≤ r.1.1 ∧ r.1.1 ≤ b ∧ l.length ≤ 1048576 ∧ t.size ≤ 1048576)) := by
  obtain ⟨q, g1, g2⟩ := szDec_ev n l s hlen b h0 hb
  rcases g2 with g2 | ⟨g2, g3, g4⟩
  · refine ⟨(((-1 : Int), ()), (((), (), (), (), (), (), (), (), (), ()), (), ())), Ev.step 2 (fun k => F8_eq k _ _ _ _ _ _ _ _ _ _) (Ev.bind g1 ?_), .inl (by show (-1 : Int) < 0; omega)⟩
    simp only [g2, decide_true, if_true]
    exact Ev.now _
  · have e : IntKind.i64.wrap (q.1.1 - (t.size : Int)) = q.1.1 - (t.size : Int) := wrap64 (by omega) (by omega)
    by_cases hn : q.1.1 - (t.size : Int) < 0
    · refine ⟨(((-1 : Int), ()), (((), (), (), (), (), (), (), (), (), ()), (), ())), Ev.step 2 (fun k => F8_eq k _ _ _ _ _ _ _ _ _ _) (Ev.bind g1 ?_), .inl (by show (-1 : Int) < 0; omega)⟩
      simp only [decide_eq_false (show ¬ q.1.1 < 0 by omega), Bool.false_eq_true, if_false, e, decide_eq_true hn, if_true]
      exact Ev.now _
    · refine ⟨((q.1.1 - (t.size : Int), ()), (((), (), (), (), (), (), (), (), (), ()), (), ())), Ev.step 2 (fun k => F8_eq k _ _ _ _ _ _ _ _ _ _) (Ev.bind g1 ?_), .inr ⟨by show 0 ≤ q.1.1 - (t.size : Int); omega, by show q.1.1 - (t.size : Int) ≤ b; omega, g4, by omega⟩⟩
      simp only [decide_eq_false (show ¬ q.1.1 < 0 by omega), Bool.false_eq_true, if_false, e, decide_eq_false hn]
      exact Ev.now _
end
end Go.Proofs.YthpgglegdhjihaaGreatDoor.R
end

section
/-! Rf: how values compare. -/
set_option autoImplicit false
set_option linter.unusedSimpArgs false
set_option linter.unusedVariables false
namespace Go.Proofs.YthpgglegdhjihaaGreatDoor.R
open Go.Rf
def zc (x y : Int) : Int := if x < y then -1 else if x > y then 1 else 0
theorem l4Int_ev (x y : Int) : Ev (fun k => F62 k x y) ((zc x y, ()), ((), (), ())) := by
  refine Ev.step 2 (fun k => F62_eq k _ _) ?_
  unfold zc
  by_cases h : x < y
  · simp only [h, decide_true, if_true]; exact Ev.now _
  by_cases h2 : x > y
  · simp only [h, h2, decide_false, decide_true, Bool.false_eq_true, if_false, if_true]; exact Ev.now _
  · simp only [h, h2, decide_false, Bool.false_eq_true, if_false]; exact Ev.now _
theorem cmpInt_ev (x y : Int) : Ev (fun k => F69 k x y) ((zc x y, ()), ((), (), ())) := by
  have e : ∀ x : Int, Ev (fun k => F100 k x) ((false, ()), ((), ())) := fun x => by
    refine Ev.step 2 (fun k => F100_eq k _) ?_
    simp only [bne_self_eq_false]
    exact Ev.now _
  refine Ev.step 2 (fun k => F69_eq k _ _) (Ev.bind (e x) (Ev.bind (e y) ?_))
  unfold zc
  simp only [Bool.false_eq_true, if_false]
  by_cases h : x < y
  · simp only [h, decide_true, if_true]; exact Ev.now _
  by_cases h2 : x > y
  · simp only [h, h2, decide_false, decide_true, Bool.false_eq_true, if_false, if_true]; exact Ev.now _
  · simp only [h, h2, decide_false, Bool.false_eq_true, if_false]; exact Ev.now _
theorem or_ev (x y : Int) : Ev (fun k => F70 k [x, y]) (((if x = 0 then y else x), ()), ((), ())) := by
  refine Ev.step 2 (fun k => F70_eq k _) (Ev.step 1 (fun k => F70c3_eq k _ _ _ _) ?_)
  have n0 : (decide ((0 : Int) < (([x, y] : List Int).length : Int))) = true := rfl
  have z0 : (decide ((0 : Int) ≤ 0)) = true := by decide
  simp only [n0, z0, if_true, show ([x, y] : List Int)[(0 : Int).toNat]? = some x from rfl, Option.bind_some]
  by_cases h : x = 0
  · simp only [h, bne_self_eq_false, Bool.false_eq_true, if_false, if_true]
    refine Ev.step 1 (fun k => F70c3_eq k _ _ _ _) ?_
    have w1 : IntKind.i64.wrap ((0 : Int) + 1) = 1 := by decide
    have n1 : (decide ((1 : Int) < (([0, y] : List Int).length : Int))) = true := rfl
    have z1 : (decide ((0 : Int) ≤ 1)) = true := by decide
    simp only [w1, n1, z1, if_true, show ([0, y] : List Int)[(1 : Int).toNat]? = some y from rfl, Option.bind_some]
    by_cases h2 : y = 0
    · simp only [h2, bne_self_eq_false, Bool.false_eq_true, if_false]
      refine Ev.step 1 (fun k => F70c3_eq k _ _ _ _) ?_
      have w2 : IntKind.i64.wrap ((1 : Int) + 1) = 2 := by decide
      have n2 : (decide ((2 : Int) < (([0, 0] : List Int).length : Int))) = false := by decide
      simp only [w2, n2, Bool.false_eq_true, if_false]
      exact Ev.now _
    · simp only [bne_iff_ne.2 h2, if_true]
      exact Ev.now _
  · simp only [bne_iff_ne.2 h, if_true, h, if_false]
    exact Ev.now _
/-! ### texts -/
def tc (a b : ByteArray) : Int := Lib.compareBytes a.data.toList b.data.toList
theorem less_cmp : ∀ (a b : List UInt8), (Op.bytesLess a b = true ↔ Lib.compareBytes a b = -1) ∧ ((Lib.compareBytes a b = 0) ↔ a = b) ∧ (Lib.compareBytes a b = -1 ∨ Lib.compareBytes a b = 0 ∨ Lib.compareBytes a b = 1)
  | [], [] => by simp [Op.bytesLess, Lib.compareBytes]
  | [], _ :: _ => by simp [Op.bytesLess, Lib.compareBytes]
  | _ :: _, [] => by simp [Op.bytesLess, Lib.compareBytes]
  | x :: a, y :: b => by
    obtain ⟨h1, h2, h3⟩ := less_cmp a b
    unfold Op.bytesLess Lib.compareBytes
    by_cases hxy : x = y
    · subst hxy
      have hlt : ¬ x < x := UInt8.lt_irrefl x
      simp only [hlt, decide_false, beq_self_eq_true, Bool.false_or, Bool.true_and, if_false, List.cons.injEq, true_and]
      exact ⟨h1, h2, h3⟩
    · by_cases hlt : x < y
      · simp [hlt, hxy]
      · have hgt : y < x := UInt8.lt_of_le_of_ne (UInt8.not_lt.1 hlt) (Ne.symm hxy)
        simp [hlt, hgt, hxy]
theorem l4Str_ev (a b : ByteArray) : Ev (fun k => F65 k a b) ((tc a b, ()), ((), (), ())) := by
  obtain ⟨h1, h2, h3⟩ := less_cmp a.data.toList b.data.toList
  refine Ev.step 2 (fun k => F65_eq k _ _) ?_
  rw [Lib.toList_data, Lib.toList_data]
  unfold tc
  cases hl : Op.bytesLess a.data.toList b.data.toList with
  | true =>
    rw [h1.1 hl]
    simp only [if_true]
    exact Ev.now _
  | false =>
    have n1 : Lib.compareBytes a.data.toList b.data.toList ≠ -1 := fun h => by rw [h1.2 h] at hl; cases hl
    by_cases he : a.data.toList = b.data.toList
    · rw [h2.2 he]
      simp only [he, beq_self_eq_true, Bool.or_true, Bool.not_true, Bool.false_eq_true, if_false]
      exact Ev.now _
    · have n0 : Lib.compareBytes a.data.toList b.data.toList ≠ 0 := fun h => he (h2.1 h)
      have e1 : Lib.compareBytes a.data.toList b.data.toList = 1 := by rcases h3 with h | h | h; exact absurd h n1; exact absurd h n0; exact h
      rw [e1]
      simp only [beq_eq_false_iff_ne.2 he, Bool.or_false, Bool.not_false, Bool.false_eq_true, if_false, if_true]
      exact Ev.now _
theorem compare_ev (a b : ByteArray) : Ev (fun k => F71 k a b) ((tc a b, ()), ((), (), ())) :=
  Ev.step 1 (fun k => F71_eq k a b) (Ev.now _)
/-! ### values -/
def bit (b : Bool) : Int := if b then 1 else 0
theorem l4Bit_ev (b : Bool) : Ev (fun k => F63 k b) ((bit b, ()), ((), ())) := by
  refine Ev.step 2 (fun k => F63_eq k _) ?_
  unfold bit
  cases b
  · simp only [Bool.false_eq_true, if_false]; exact Ev.now _
  · simp only [if_true]; exact Ev.now _
theorem truth_ev (b : Bool) : Ev (fun k => F67 k b) ((bit b, ()), ((), ())) := by
  refine Ev.step 2 (fun k => F67_eq k _) ?_
  unfold bit
  cases b
  · simp only [Bool.false_eq_true, if_false]; exact Ev.now _
  · simp only [if_true]; exact Ev.now _
theorem bit_sub (b c : Bool) : IntKind.i64.wrap (bit b - bit c) = zc (bit b) (bit c) := by cases b <;> cases c <;> decide
/-- how two values of one kind compare -/
def vc (k0 : Int) (y1 n1 : Bool) (l1 : List Int) (s1 d1 m1 a1 : Int) (t1 : ByteArray) (y2 n2 : Bool) (l2 : List Int) (s2 d2 m2 a2 : Int) (t2 : ByteArray) : Int :=
  if k0 = 1 then zc (bit y1) (bit y2) else if k0 = 2 then dCmp n1 l1 s1.toNat n2 l2 s2.toNat else if k0 = 3 then zc d1 d2 else if k0 = 4 then (if m1 = m2 then zc a1 a2 else zc m1 m2) else tc t1 t2
def vo (k1 : Int) (y1 n1 : Bool) (l1 : List Int) (s1 d1 m1 a1 : Int) (t1 : ByteArray) (k2 : Int) (y2 n2 : Bool) (l2 : List Int) (s2 d2 m2 a2 : Int) (t2 : ByteArray) : Int :=
  if k1 = k2 then vc k1 y1 n1 l1 s1 d1 m1 a1 t1 y2 n2 l2 s2 d2 m2 a2 t2 else zc k1 k2
theorem zc_zero {x y : Int} : zc x y = 0 ↔ x = y := by
  unfold zc
  split
  · constructor <;> intro h <;> omega
  · split <;> constructor <;> intro h <;> omega
section
variable (k0 : Int) (y1 n1 : Bool) (l1 : List Int) (s1 d1 m1 a1 : Int) (t1 : ByteArray) (y2 n2 : Bool) (l2 : List Int) (s2 d2 m2 a2 : Int) (t2 : ByteArray)
theorem vOk_kind {k0 : Int} {y n : Bool} {l : List Int} {s day mo da : Int} {t : ByteArray} (h : vOk k0 y n l s day mo da t = true) : 0 ≤ k0 ∧ k0 ≤ 5 := by
  unfold vOk within at h
  simp only [Bool.and_eq_true, decide_eq_true_iff] at h
  exact ⟨h.1.1, h.1.2⟩
theorem noText_nil {t : ByteArray} (h : noText t = true) : t.data.toList = [] := by
  have h1 := eq_of_beq h
  rw [Lib.toList_data, Lib.toList_data] at h1
  exact h1
theorem vOk_noText {k0 : Int} {y n : Bool} {l : List Int} {s day mo da : Int} {t : ByteArray} (h : vOk k0 y n l s day mo da t = true) (h5 : k0 ≠ 5) : t.data.toList = [] := by
  unfold vOk bareOk at h
  rw [beq_eq_false_iff_ne.2 h5] at h
  simp only [Bool.and_eq_true, Bool.false_or] at h
  exact noText_nil h.2.1.2.2.2.2
theorem l4Cmp_ev (h1 : vOk k0 y1 n1 l1 s1 d1 m1 a1 t1 = true) (h2 : vOk k0 y2 n2 l2 s2 d2 m2 a2 t2 = true) : Ev (fun k => F30 k k0 y1 n1 l1 s1 d1 m1 a1 t1 k0 y2 n2 l2 s2 d2 m2 a2 t2) ((vc k0 y1 n1 l1 s1 d1 m1 a1 t1 y2 n2 l2 s2 d2 m2 a2 t2, ()), (((), (), (), (), (), (), (), (), (), ()), ((), (), (), (), (), (), (), (), (), ()), ())) := by
  refine Ev.step 2 (fun k => F30_eq k _ _ _ _ _ _ _ _ _ _ _ _ _ _ _ _ _ _) ?_
  unfold vc
  by_cases g1 : k0 = 1
  · simp only [g1, beq_self_eq_true, if_true]
    exact Ev.bind (l4Bit_ev _) (Ev.bind (l4Bit_ev _) (Ev.bind (l4Int_ev _ _) (Ev.now _)))
  simp only [g1, beq_eq_false_iff_ne.2 g1, Bool.false_eq_true, if_false]
  by_cases g2 : k0 = 2
  · obtain ⟨b1, _, u1, rfl, hu1⟩ := decOk_of (vOk_num _ _ _ _ _ _ _ _ _ h1 g2)
    obtain ⟨b2, _, u2, rfl, hu2⟩ := decOk_of (vOk_num _ _ _ _ _ _ _ _ _ h2 g2)
    simp only [g2, beq_self_eq_true, if_true, Int.toNat_natCast]
    exact Ev.bind (l2Cmp_ev b1 b2 hu1 hu2) (Ev.now _)
  simp only [g2, beq_eq_false_iff_ne.2 g2, Bool.false_eq_true, if_false]
  by_cases g3 : k0 = 3
  · simp only [g3, beq_self_eq_true, if_true]
    exact Ev.bind (l4Int_ev _ _) (Ev.now _)
  simp only [g3, beq_eq_false_iff_ne.2 g3, Bool.false_eq_true, if_false]
  by_cases g4 : k0 = 4
  · simp only [g4, beq_self_eq_true, if_true]
    by_cases hm : m1 = m2
    · simp only [hm, bne_self_eq_false, Bool.false_eq_true, if_false, if_true]
      exact Ev.bind (l4Int_ev _ _) (Ev.now _)
    · simp only [bne_iff_ne.2 hm, if_true, hm, if_false]
      exact Ev.bind (l4Int_ev _ _) (Ev.now _)
  simp only [g4, beq_eq_false_iff_ne.2 g4, Bool.false_eq_true, if_false]
  exact Ev.bind (l4Str_ev _ _) (Ev.now _)
theorem vcmp_ev (h1 : vOk k0 y1 n1 l1 s1 d1 m1 a1 t1 = true) (h2 : vOk k0 y2 n2 l2 s2 d2 m2 a2 t2 = true) : Ev (fun k => F33 k k0 y1 n1 l1 s1 d1 m1 a1 t1 k0 y2 n2 l2 s2 d2 m2 a2 t2) ((vc k0 y1 n1 l1 s1 d1 m1 a1 t1 y2 n2 l2 s2 d2 m2 a2 t2, ()), (((), (), (), (), (), (), (), (), (), ()), ((), (), (), (), (), (), (), (), (), ()), ())) := by
  refine Ev.step 2 (fun k => F33_eq k _ _ _ _ _ _ _ _ _ _ _ _ _ _ _ _ _ _) ?_
  unfold vc
  by_cases g1 : k0 = 1
  · simp only [g1, beq_self_eq_true, if_true]
    refine Ev.bind (truth_ev _) (Ev.bind (truth_ev _) ?_)
    simp only [bit_sub]
    exact Ev.now _
  simp only [g1, beq_eq_false_iff_ne.2 g1, Bool.false_eq_true, if_false]
  by_cases g2 : k0 = 2
  · obtain ⟨b1, _, u1, rfl, hu1⟩ := decOk_of (vOk_num _ _ _ _ _ _ _ _ _ h1 g2)
    obtain ⟨b2, _, u2, rfl, hu2⟩ := decOk_of (vOk_num _ _ _ _ _ _ _ _ _ h2 g2)
    simp only [g2, beq_self_eq_true, if_true, Int.toNat_natCast]
    exact Ev.bind (cmpD_ev b1 b2 hu1 hu2) (Ev.now _)
  simp only [g2, beq_eq_false_iff_ne.2 g2, Bool.false_eq_true, if_false]
  by_cases g3 : k0 = 3
  · simp only [g3, beq_self_eq_true, if_true]
    exact Ev.bind (cmpInt_ev _ _) (Ev.now _)
  simp only [g3, beq_eq_false_iff_ne.2 g3, Bool.false_eq_true, if_false]
  by_cases g4 : k0 = 4
  · simp only [g4, beq_self_eq_true, if_true]
    refine Ev.bind (cmpInt_ev _ _) (Ev.bind (cmpInt_ev _ _) (Ev.bind (or_ev _ _) ?_))
    by_cases hm : m1 = m2
    · subst hm
      simp only [zc_zero.2 rfl, if_true]
      exact Ev.now _
    · have : zc m1 m2 ≠ 0 := fun h => hm (zc_zero.1 h)
      simp only [this, hm, if_false]
      exact Ev.now _
  simp only [g4, beq_eq_false_iff_ne.2 g4, Bool.false_eq_true, if_false]
  by_cases g5 : k0 = 5
  · simp only [g5, beq_self_eq_true, if_true]
    exact Ev.bind (compare_ev _ _) (Ev.now _)
  · have e : tc t1 t2 = 0 := by
      unfold tc
      rw [vOk_noText h1 g5, vOk_noText h2 g5]
      rfl
    simp only [beq_eq_false_iff_ne.2 g5, Bool.false_eq_true, if_false, e]
    exact Ev.now _
end
section
variable (k1 : Int) (y1 n1 : Bool) (l1 : List Int) (s1 d1 m1 a1 : Int) (t1 : ByteArray) (k2 : Int) (y2 n2 : Bool) (l2 : List Int) (s2 d2 m2 a2 : Int) (t2 : ByteArray)
theorem l4Order_ev (h1 : vOk k1 y1 n1 l1 s1 d1 m1 a1 t1 = true) (h2 : vOk k2 y2 n2 l2 s2 d2 m2 a2 t2 = true) : Ev (fun k => F36 k k1 y1 n1 l1 s1 d1 m1 a1 t1 k2 y2 n2 l2 s2 d2 m2 a2 t2) ((vo k1 y1 n1 l1 s1 d1 m1 a1 t1 k2 y2 n2 l2 s2 d2 m2 a2 t2, ()), (((), (), (), (), (), (), (), (), (), ()), ((), (), (), (), (), (), (), (), (), ()), ())) := by
  refine Ev.step 2 (fun k => F36_eq k _ _ _ _ _ _ _ _ _ _ _ _ _ _ _ _ _ _) ?_
  unfold vo
  by_cases h : k1 = k2
  · subst h
    simp only [bne_self_eq_false, Bool.false_eq_true, if_false, if_true]
    exact Ev.bind (l4Cmp_ev _ _ _ _ _ _ _ _ _ _ _ _ _ _ _ _ _ h1 h2) (Ev.now _)
  · simp only [bne_iff_ne.2 h, if_true, h, if_false]
    exact Ev.bind (l4Int_ev _ _) (Ev.now _)
theorem order_ev (h1 : vOk k1 y1 n1 l1 s1 d1 m1 a1 t1 = true) (h2 : vOk k2 y2 n2 l2 s2 d2 m2 a2 t2 = true) : Ev (fun k => F37 k k1 y1 n1 l1 s1 d1 m1 a1 t1 k2 y2 n2 l2 s2 d2 m2 a2 t2) ((vo k1 y1 n1 l1 s1 d1 m1 a1 t1 k2 y2 n2 l2 s2 d2 m2 a2 t2, ()), (((), (), (), (), (), (), (), (), (), ()), ((), (), (), (), (), (), (), (), (), ()), ())) := by
  refine Ev.step 2 (fun k => F37_eq k _ _ _ _ _ _ _ _ _ _ _ _ _ _ _ _ _ _) ?_
  unfold vo
  by_cases h : k1 = k2
  · subst h
    simp only [bne_self_eq_false, Bool.false_eq_true, if_false, if_true]
    exact Ev.bind (vcmp_ev _ _ _ _ _ _ _ _ _ _ _ _ _ _ _ _ _ h1 h2) (Ev.now _)
  · simp only [bne_iff_ne.2 h, if_true, h, if_false]
    exact Ev.bind (cmpInt_ev _ _) (Ev.now _)
/-- what ValueOrder hands back -/
def vOrd : Int := if vOk k1 y1 n1 l1 s1 d1 m1 a1 t1 && vOk k2 y2 n2 l2 s2 d2 m2 a2 t2 then vo k1 y1 n1 l1 s1 d1 m1 a1 t1 k2 y2 n2 l2 s2 d2 m2 a2 t2 else 2
/-- can ValueCmp tell? -/
def vCan : Bool := vOk k1 y1 n1 l1 s1 d1 m1 a1 t1 && vOk k2 y2 n2 l2 s2 d2 m2 a2 t2 && (k1 != 0 && k1 == k2)
def vCmp : Int := if vCan k1 y1 n1 l1 s1 d1 m1 a1 t1 k2 y2 n2 l2 s2 d2 m2 a2 t2 then vc k1 y1 n1 l1 s1 d1 m1 a1 t1 y2 n2 l2 s2 d2 m2 a2 t2 else 0
variable (z1 : l1.length ≤ 1048576) (x1 : t1.size ≤ 1048576) (z2 : l2.length ≤ 1048576) (x2 : t2.size ≤ 1048576)
include z1 x1 z2 x2
theorem ValueOrder_sp : Ev (fun k => F13 k k1 y1 n1 l1 s1 d1 m1 a1 t1 k2 y2 n2 l2 s2 d2 m2 a2 t2) ((vOrd k1 y1 n1 l1 s1 d1 m1 a1 t1 k2 y2 n2 l2 s2 d2 m2 a2 t2, ()), (((), (), (), (), (), (), (), (), (), ()), ((), (), (), (), (), (), (), (), (), ()), ())) := by
  refine Ev.step 2 (fun k => F13_eq k _ _ _ _ _ _ _ _ _ _ _ _ _ _ _ _ _ _) (Ev.bind (l4Ok_ev k1 y1 n1 l1 s1 d1 m1 a1 t1 z1 x1) ?_)
  unfold vOrd
  cases c1 : vOk k1 y1 n1 l1 s1 d1 m1 a1 t1 with
  | false => simp only [Bool.not_false, if_true, Bool.false_and, Bool.false_eq_true, if_false]; exact Ev.now _
  | true =>
    simp only [Bool.not_true, Bool.false_eq_true, if_false, Bool.true_and]
    refine Ev.bind (l4Ok_ev k2 y2 n2 l2 s2 d2 m2 a2 t2 z2 x2) ?_
    cases c2 : vOk k2 y2 n2 l2 s2 d2 m2 a2 t2 with
    | false => simp only [Bool.not_false, if_true, Bool.false_eq_true, if_false]; exact Ev.now _
    | true =>
      simp only [Bool.not_true, Bool.false_eq_true, if_false, if_true]
      exact Ev.bind (l4Order_ev _ _ _ _ _ _ _ _ _ _ _ _ _ _ _ _ _ _ c1 c2) (Ev.now _)
theorem ValueOrder_im : Ev (fun k => F14 k k1 y1 n1 l1 s1 d1 m1 a1 t1 k2 y2 n2 l2 s2 d2 m2 a2 t2) ((vOrd k1 y1 n1 l1 s1 d1 m1 a1 t1 k2 y2 n2 l2 s2 d2 m2 a2 t2, ()), (((), (), (), (), (), (), (), (), (), ()), ((), (), (), (), (), (), (), (), (), ()), ())) := by
  refine Ev.step 2 (fun k => F14_eq k _ _ _ _ _ _ _ _ _ _ _ _ _ _ _ _ _ _) (Ev.bind (ValueOk_ev k1 y1 n1 l1 s1 d1 m1 a1 t1 z1 x1) ?_)
  unfold vOrd
  cases c1 : vOk k1 y1 n1 l1 s1 d1 m1 a1 t1 with
  | false => simp only [Bool.not_false, if_true, Bool.false_and, Bool.false_eq_true, if_false]; exact Ev.now _
  | true =>
    simp only [Bool.not_true, Bool.false_eq_true, if_false, Bool.true_and]
    refine Ev.bind (ValueOk_ev k2 y2 n2 l2 s2 d2 m2 a2 t2 z2 x2) ?_
    cases c2 : vOk k2 y2 n2 l2 s2 d2 m2 a2 t2 with
    | false => simp only [Bool.not_false, if_true, Bool.false_eq_true, if_false]; exact Ev.now _
    | true =>
      simp only [Bool.not_true, Bool.false_eq_true, if_false, if_true]
      exact Ev.bind (order_ev _ _ _ _ _ _ _ _ _ _ _ _ _ _ _ _ _ _ c1 c2) (Ev.now _)
theorem ValueCmp_sp : Ev (fun k => F9 k k1 y1 n1 l1 s1 d1 m1 a1 t1 k2 y2 n2 l2 s2 d2 m2 a2 t2) ((vCmp k1 y1 n1 l1 s1 d1 m1 a1 t1 k2 y2 n2 l2 s2 d2 m2 a2 t2, vCan k1 y1 n1 l1 s1 d1 m1 a1 t1 k2 y2 n2 l2 s2 d2 m2 a2 t2, ()), (((), (), (), (), (), (), (), (), (), ()), ((), (), (), (), (), (), (), (), (), ()), ())) := by
  refine Ev.step 2 (fun k => F9_eq k _ _ _ _ _ _ _ _ _ _ _ _ _ _ _ _ _ _) (Ev.bind (l4Ok_ev k1 y1 n1 l1 s1 d1 m1 a1 t1 z1 x1) ?_)
  unfold vCmp vCan
  cases c1 : vOk k1 y1 n1 l1 s1 d1 m1 a1 t1 with
  | false => simp only [Bool.not_false, if_true, Bool.false_and, Bool.false_eq_true, if_false]; exact Ev.now _
  | true =>
    simp only [Bool.not_true, Bool.false_eq_true, if_false, Bool.true_and]
    refine Ev.bind (l4Ok_ev k2 y2 n2 l2 s2 d2 m2 a2 t2 z2 x2) ?_
    cases c2 : vOk k2 y2 n2 l2 s2 d2 m2 a2 t2 with
    | false => simp only [Bool.not_false, if_true, Bool.false_and, Bool.false_eq_true, if_false]; exact Ev.now _
    | true =>
      by_cases h0 : k1 = 0
      · simp only [h0, Bool.not_true, Bool.false_eq_true, if_false, if_true, Bool.true_and, beq_self_eq_true, bne_self_eq_false, Bool.false_and]; exact Ev.now _
      by_cases h : k1 = k2
      · subst h
        simp only [beq_eq_false_iff_ne.2 h0, bne_iff_ne.2 h0, beq_self_eq_true, bne_self_eq_false, Bool.not_true, Bool.false_eq_true, if_false, Bool.true_and, if_true]
        exact Ev.bind (l4Cmp_ev _ _ _ _ _ _ _ _ _ _ _ _ _ _ _ _ _ c1 c2) (Ev.now _)
      · simp only [beq_eq_false_iff_ne.2 h0, bne_iff_ne.2 h0, beq_eq_false_iff_ne.2 h, bne_iff_ne.2 h, Bool.not_true, Bool.false_eq_true, if_false, Bool.true_and, if_true]
        exact Ev.now _
theorem ValueCmp_im : Ev (fun k => F11 k k1 y1 n1 l1 s1 d1 m1 a1 t1 k2 y2 n2 l2 s2 d2 m2 a2 t2) ((vCmp k1 y1 n1 l1 s1 d1 m1 a1 t1 k2 y2 n2 l2 s2 d2 m2 a2 t2, vCan k1 y1 n1 l1 s1 d1 m1 a1 t1 k2 y2 n2 l2 s2 d2 m2 a2 t2, ()), (((), (), (), (), (), (), (), (), (), ()), ((), (), (), (), (), (), (), (), (), ()), ())) := by
  refine Ev.step 2 (fun k => F11_eq k _ _ _ _ _ _ _ _ _ _ _ _ _ _ _ _ _ _) (Ev.bind (ValueOk_ev k1 y1 n1 l1 s1 d1 m1 a1 t1 z1 x1) ?_)
  unfold vCmp vCan
  cases c1 : vOk k1 y1 n1 l1 s1 d1 m1 a1 t1 with
  | false => simp only [Bool.not_false, if_true, Bool.false_and, Bool.false_eq_true, if_false]; exact Ev.now _
  | true =>
    simp only [Bool.not_true, Bool.false_eq_true, if_false, Bool.true_and]
    refine Ev.bind (ValueOk_ev k2 y2 n2 l2 s2 d2 m2 a2 t2 z2 x2) ?_
    cases c2 : vOk k2 y2 n2 l2 s2 d2 m2 a2 t2 with
    | false => simp only [Bool.not_false, if_true, Bool.false_and, Bool.false_eq_true, if_false]; exact Ev.now _
    | true =>
      by_cases h0 : k1 = 0
      · simp only [h0, Bool.not_true, Bool.false_eq_true, if_false, if_true, Bool.true_and, beq_self_eq_true, bne_self_eq_false, Bool.false_and]; exact Ev.now _
      by_cases h : k1 = k2
      · subst h
        simp only [beq_eq_false_iff_ne.2 h0, bne_iff_ne.2 h0, beq_self_eq_true, bne_self_eq_false, Bool.not_true, Bool.false_eq_true, if_false, Bool.true_and, if_true]
        exact Ev.bind (vcmp_ev _ _ _ _ _ _ _ _ _ _ _ _ _ _ _ _ _ c1 c2) (Ev.now _)
      · simp only [beq_eq_false_iff_ne.2 h0, bne_iff_ne.2 h0, beq_eq_false_iff_ne.2 h, bne_iff_ne.2 h, Bool.not_true, Bool.false_eq_true, if_false, Bool.true_and, if_true]
        exact Ev.now _
end
end Go.Proofs.YthpgglegdhjihaaGreatDoor.R
end

section
/-! Rf: the law FnExactValueOrder, with no machine in sight. -/
set_option autoImplicit false
set_option linter.unusedSimpArgs false
namespace Go.Proofs.YthpgglegdhjihaaGreatDoor.R
open Go.Rf
theorem FnExactValueOrder : PureFnExactValueOrder := by
  intro k1 y1 n1 l1 s1 d1 m1 a1 t1 k2 y2 n2 l2 s2 d2 m2 a2 t2 _ _ _ w1 _ _ _ _ w2 _ _ _ w3 _ _ _ _ w4
  have fin : Ev (fun k => F4 k k1 y1 n1 l1 s1 d1 m1 a1 t1 k2 y2 n2 l2 s2 d2 m2 a2 t2) ((true, ()), (((), (), (), (), (), (), (), (), (), ()), ((), (), (), (), (), (), (), (), (), ()), ())) := by
    obtain ⟨r, h1, h2⟩ := szValue_ev k1 y1 n1 l1 s1 d1 m1 a1 t1 w1.1 w2 1048576 (by omega) (by omega)
    refine Ev.step 2 (fun k => F4_eq k _ _ _ _ _ _ _ _ _ _ _ _ _ _ _ _ _ _) (Ev.bind h1 ?_)
    rcases h2 with h2 | ⟨h2, h3, h4, h5⟩
    · simp only [h2, decide_true, if_true]
      exact Ev.now _
    · obtain ⟨q, g1, g2⟩ := szValue_ev k2 y2 n2 l2 s2 d2 m2 a2 t2 w3.1 w4 r.1.1 h2 (by omega)
      simp only [decide_eq_false (show ¬ r.1.1 < 0 by omega), Bool.false_eq_true, if_false]
      refine Ev.bind g1 ?_
      rcases g2 with g2 | ⟨g2, _, g4, g5⟩
      · simp only [g2, decide_true, if_true]
        exact Ev.now _
      · have t1' := toValue_ev k1 y1 n1 l1 s1 d1 m1 a1 t1 h4
        have t2' := toValue_ev k2 y2 n2 l2 s2 d2 m2 a2 t2 g4
        simp only [decide_eq_false (show ¬ q.1.1 < 0 by omega), Bool.false_eq_true, if_false]
        refine Ev.bind t1' (Ev.bind t2' (Ev.bind (ValueOrder_sp _ _ _ _ _ _ _ _ _ _ _ _ _ _ _ _ _ _ h4 h5 g4 g5) (Ev.bind t1' (Ev.bind t2' (Ev.bind (ValueOrder_im _ _ _ _ _ _ _ _ _ _ _ _ _ _ _ _ _ _ h4 h5 g4 g5) ?_)))))
        simp only [bne_self_eq_false, Bool.false_eq_true, if_false]
        refine Ev.bind t1' (Ev.bind (eqValue_ev k1 y1 n1 l1 s1 d1 m1 a1 t1 h4) ?_)
        simp only [Bool.not_true, Bool.false_eq_true, if_false]
        refine Ev.bind t2' (Ev.bind (eqValue_ev k2 y2 n2 l2 s2 d2 m2 a2 t2 g4) ?_)
        simp only [Bool.not_true, Bool.false_eq_true, if_false]
        exact Ev.now _
  obtain ⟨k, hk⟩ := Ev.get fin
  exact ⟨k, _, hk⟩
end Go.Proofs.YthpgglegdhjihaaGreatDoor.R
end

section
/-- The row, under a short name, for the claim. -/
theorem Go.Proofs.YthpgglegdhjihaaGreatDoor.fnExactValueOrder_holds : Go.Proofs.YthpgglegdhjihaaGreatDoor.Rows.FnExactValueOrderCardSaid := Go.Proofs.YthpgglegdhjihaaGreatDoor.fnExactValueOrder.card Go.Proofs.YthpgglegdhjihaaGreatDoor.R.FnExactValueOrder
end
