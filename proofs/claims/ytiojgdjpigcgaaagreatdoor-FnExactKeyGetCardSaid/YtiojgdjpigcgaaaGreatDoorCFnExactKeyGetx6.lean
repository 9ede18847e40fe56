/- A part of the proof that the law FnExactKeyGet answers true for every input: contracts of functions that it reaches, or its plain law. -/
import Derived.Test.YtiojgdjpigcgaaaGreatDoorCFnExactKeyGetx0
import Derived.Test.YtiojgdjpigcgaaaGreatDoorCFnExactKeyGetx2
import Derived.Test.YtiojgdjpigcgaaaGreatDoorCFnExactKeyGetx3
import Derived.Test.YtiojgdjpigcgaaaGreatDoorCFnExactKeyGetx4
import Derived.Test.YtiojgdjpigcgaaaGreatDoorCFnExactKeyGetx5
section
/-! Rf: a key is read back (the other side): numbers. -/
set_option autoImplicit false
set_option linter.unusedSimpArgs false
set_option linter.unusedVariables false
namespace Go.Proofs.YtiojgdjpigcgaaaGreatDoor.R
open Go.Rf
def okF (x : UInt8) : Bool := decide (1 ≤ x.toNat) && decide (x.toNat ≤ 10)
def up47 (x : UInt8) : UInt8 := UInt8.ofNat (47 + x.toNat)
def figS (F : List UInt8) : List UInt8 := if F.all okF = true ∧ F ≠ [] ∧ (F.map up47).getD 0 0 ≠ 48 ∧ (F.map up47).getD (F.length - 1) 0 ≠ 48 then F.map up47 else []
theorem up47_nat {x : UInt8} (h : okF x = true) : (up47 x).toNat = 47 + x.toNat ∧ 1 ≤ x.toNat ∧ x.toNat ≤ 10 := by
  unfold okF at h
  simp only [Bool.and_eq_true, decide_eq_true_eq] at h
  unfold up47
  rw [UInt8.toNat_ofNat']
  omega
theorem up47_dig {F : List UInt8} (h : F.all okF = true) : Dig (F.map up47) := fun b hb => by
  obtain ⟨x, hx, rfl⟩ := List.mem_map.1 hb
  have := up47_nat (List.all_eq_true.1 h x hx)
  omega
theorem up47_gb {F : List UInt8} (h : F.all okF = true) : (F.map up47).map gb = F := by
  rw [List.map_map]
  refine (List.map_congr_left fun x hx => ?_).trans (List.map_id F)
  have h1 := up47_nat (List.all_eq_true.1 h x hx)
  have h2 := gb_nat (b := up47 x) (by omega)
  show gb (up47 x) = x
  exact UInt8.toNat_inj.1 (by omega)
theorem gb_up47 {T : List UInt8} (h : Dig T) : (T.map gb).all okF = true ∧ (T.map gb).map up47 = T ∧ ∀ b ∈ T.map gb, b ≠ 0 := by
  refine ⟨List.all_eq_true.2 fun x hx => ?_, ?_, fun x hx => ?_⟩
  · obtain ⟨b, hb, rfl⟩ := List.mem_map.1 hx
    have := gb_nat (h b hb)
    have := h b hb
    unfold okF
    rw [Bool.and_eq_true, decide_eq_true_eq, decide_eq_true_eq]
    omega
  · rw [List.map_map]
    refine (List.map_congr_left fun x hx => ?_).trans (List.map_id T)
    have h2 := gb_nat (h x hx)
    have h3 := h x hx
    show up47 (gb x) = x
    unfold up47
    refine UInt8.toNat_inj.1 ?_
    rw [UInt8.toNat_ofNat']
    omega
  · obtain ⟨b, hb, rfl⟩ := List.mem_map.1 hx
    exact gb_ne (h b hb)
theorem figsS_ev {F : List UInt8} (hl : F.length ≤ 2000000) : Ev (fun k => F172 k (ba F)) ((ba (figS F), ()), ((), ())) := by
  have bad : ∀ {x : UInt8} {i : Nat}, F[i]? = some x → okF x = false → figS F = [] := fun {x i} hx h => by
    unfold figS
    rw [if_neg]
    rintro ⟨h1, _⟩
    rw [List.all_eq_true.1 h1 x (List.mem_of_getElem? hx)] at h
    cases h
  have loop : ∀ (m i : Nat), i + m = F.length → (∀ x ∈ F.take i, okF x = true) → Ev (fun k => F172c3 k (ba F) (ba ((F.take i).map up47)) (i : Int)) ((ba (figS F), ()), ((), ())) := by
    intro m
    induction m with
    | zero =>
      intro i hi hok
      obtain rfl : i = F.length := by omega
      rw [List.take_length] at hok ⊢
      refine Ev.step 1 (fun k => F172c3_eq k _ _ _) ?_
      simp only [geB (Nat.le_refl F.length), Bool.false_eq_true, if_false]
      by_cases h0 : F = []
      · subst h0
        exact Ev.now _
      have hp : 0 < F.length := List.length_pos_iff.2 h0
      have c0 : (((ba (F.map up47)).size : Int) == 0) = false := by rw [ba_size, List.length_map, beq_eq_false_iff_ne]; omega
      have g0 : (ba (F.map up47))[0]? = some ((F.map up47).getD 0 0) := by
        rw [ba_get, List.getD_eq_getElem?_getD, List.getElem?_eq_getElem (by rw [List.length_map]; exact hp)]; rfl
      have g1 : (ba (F.map up47))[F.length - 1]? = some ((F.map up47).getD (F.length - 1) 0) := by
        rw [ba_get, List.getD_eq_getElem?_getD, List.getElem?_eq_getElem (by rw [List.length_map]; omega)]; rfl
      have ew : IntKind.i64.wrap (((ba (F.map up47)).size : Int) - 1) = ((F.length - 1 : Nat) : Int) := by
        rw [ba_size, List.length_map, wrap64 (by omega) (by omega)]; omega
      have q : ∀ b : UInt8, ((b.toNat : Int) == 48) = decide (b = 48) := fun b => by
        by_cases h : b = 48
        · subst h; rfl
        · rw [decide_eq_false h, beq_eq_false_iff_ne]
          intro e
          have e1 : b.toNat = 48 := by omega
          exact h (UInt8.toNat_inj.1 e1)
      have hall : F.all okF = true := List.all_eq_true.2 hok
      simp only [c0, Bool.false_eq_true, if_false, g0, Option.bind_some, q]
      by_cases h1 : (F.map up47).getD 0 0 = 48
      · have ef : figS F = [] := by unfold figS; rw [if_neg (fun h => h.2.2.1 h1)]
        rw [ef, decide_eq_true h1]
        simp only [if_true]
        exact Ev.now _
      · rw [decide_eq_false h1]
        simp only [Bool.false_eq_true, if_false, ew, ge0, if_true, Int.toNat_natCast, g1, Option.bind_some, q]
        by_cases h2 : (F.map up47).getD (F.length - 1) 0 = 48
        · have ef : figS F = [] := by unfold figS; rw [if_neg (fun h => h.2.2.2 h2)]
          rw [ef, decide_eq_true h2]
          simp only [if_true]
          exact Ev.now _
        · have ef : figS F = F.map up47 := by unfold figS; rw [if_pos ⟨hall, h0, h1, h2⟩]
          rw [ef, decide_eq_false h2]
          simp only [Bool.false_eq_true, if_false]
          exact Ev.now _
    | succ m ih =>
      intro i hi hok
      have hlt : i < F.length := by omega
      have hx := UInt8.toNat_lt F[i]
      refine Ev.step 1 (fun k => F172c3_eq k _ _ _) ?_
      simp only [ltB hlt, ge0, if_true, Int.toNat_natCast, ba_at hlt, Option.bind_some]
      by_cases h1 : F[i].toNat < 1
      · rw [bad (List.getElem?_eq_getElem hlt) (by unfold okF; rw [decide_eq_false (show ¬ 1 ≤ F[i].toNat by omega), Bool.false_and])]
        simp only [decide_eq_true (show (F[i].toNat : Int) < 1 by omega), if_true]
        exact Ev.now _
      by_cases h2 : F[i].toNat > 10
      · rw [bad (List.getElem?_eq_getElem hlt) (by unfold okF; rw [decide_eq_false (show ¬ F[i].toNat ≤ 10 by omega), Bool.and_false])]
        simp only [decide_eq_false (show ¬ (F[i].toNat : Int) < 1 by omega), decide_eq_true (show (F[i].toNat : Int) > 10 by omega), Bool.false_eq_true, if_false, if_true]
        exact Ev.now _
      have ho : okF F[i] = true := by
        unfold okF
        rw [Bool.and_eq_true, decide_eq_true_eq, decide_eq_true_eq]
        omega
      have eb : bytesOf [IntKind.u8.wrap (IntKind.u8.wrap ((F[i].toNat : Int) - 1) + 48)] = ba [up47 F[i]] := by
        rw [ints1, bytes_ints]
        congr 2
        refine UInt8.toNat_inj.1 ?_
        have a := u8_nat (IntKind.u8.wrap ((F[i].toNat : Int) - 1) + 48)
        rw [wrap8] at a ⊢
        have b := (up47_nat ho).1
        omega
      have et : (F.take (i + 1)).map up47 = (F.take i).map up47 ++ [up47 F[i]] := by
        rw [List.take_add_one, List.getElem?_eq_getElem hlt, Option.toList_some, List.map_append]; rfl
      have g := ih (i + 1) (by omega) (fun x hx => by
        rw [List.take_add_one, List.getElem?_eq_getElem hlt, Option.toList_some] at hx
        rcases List.mem_append.1 hx with hx | hx
        · exact hok x hx
        · rw [List.mem_singleton] at hx; rw [hx]; exact ho)
      rw [et] at g
      have c3 : Nat.ble ((ba ((F.take i).map up47)).size + (ba [up47 F[i]]).size) 9223372036854775807 = true := Nat.ble_eq_true_of_le (by rw [ba_size, ba_size, List.length_map, List.length_take, List.length_singleton]; omega)
      simp only [decide_eq_false (show ¬ (F[i].toNat : Int) < 1 by omega), decide_eq_false (show ¬ (F[i].toNat : Int) > 10 by omega), Bool.false_eq_true, if_false, eb, c3, if_true, ba_app, wrap_succ (show i < 9223372036854775807 by omega)]
      exact g
  exact Ev.step 2 (fun k => F172_eq k _) (loop F.length 0 (by omega) (fun x hx => by simp at hx))
/-! ### a decimal of figures -/
def scl (e : Int) (T : List UInt8) : Int := if e < (T.length : Int) then (T.length : Int) - e else 0
theorem decOf_ev {neg : Bool} {T : List UInt8} (hT : Dig T) (hl : T.length ≤ 2000000) {e : Int} (he : -100 ≤ e ∧ e ≤ 1000) : ∃ (d : Bool × List Int × Int × Unit) (ok : Bool), Ev (fun k => F173 k neg (ba T) e) ((d, ok, ()), ((), (), (), ())) ∧
    (ok = true ↔ e ≤ 30 ∧ scl e T ≤ 12 ∧ T.length ≤ 30 ∧ decOk neg (digs (dv (padD e T))) (scl e T) = true) ∧ (ok = true → d = (neg, digs (dv (padD e T)), scl e T, ())) := by
  have pad : e ≤ 30 → T.length ≤ 30 → ∀ (m : Nat) (c : Nat), c + m = (e - (T.length : Int)).toNat → Ev (fun k => F173c6 k neg (ba (T ++ List.replicate c 48)) e false [] 0 (scl e T)) (((neg, digs (dv (padD e T)), scl e T, ()), decOk neg (digs (dv (padD e T))) (scl e T), ()), ((), (), (), ())) := by
    intro h30 hl30 m
    induction m with
    | zero =>
      intro c hc
      obtain rfl : c = (e - (T.length : Int)).toNat := by omega
      refine Ev.step 1 (fun k => F173c6_eq k _ _ _ _ _ _ _) ?_
      have c1 : decide (((ba (T ++ List.replicate (e - (T.length : Int)).toNat 48)).size : Int) < e) = false := decide_eq_false (by rw [ba_size, List.length_append, List.length_replicate]; omega)
      simp only [c1, Bool.false_eq_true, if_false]
      rw [show T ++ List.replicate (e - (T.length : Int)).toNat 48 = padD e T from rfl]
      have hp : Dig (padD e T) := padD_dig hT
      have hpl := padD_len (D := T) h30 (by omega)
      have hd := dv_lt hp
      have hdl : (digs (dv (padD e T))).length ≤ 61 := digs_len_le (Nat.lt_of_lt_of_le hd (Nat.le_trans (Nat.pow_le_pow_right (by omega) hpl) (Nat.pow_le_pow_left (by omega) 61)))
      exact Ev.bind (ff_ex hp (by omega)) (Ev.bind (l2Ok_ev _ _ _ (show (digs (dv (padD e T))).length ≤ 1048576 by omega)) (Ev.now _))
    | succ m ih =>
      intro c hc
      refine Ev.step 1 (fun k => F173c6_eq k _ _ _ _ _ _ _) ?_
      have c1 : decide (((ba (T ++ List.replicate c 48)).size : Int) < e) = true := decide_eq_true (by rw [ba_size, List.length_append, List.length_replicate]; omega)
      have c2 : Nat.ble ((ba (T ++ List.replicate c 48)).size + (⟨#[48]⟩ : ByteArray).size) 9223372036854775807 = true := Nat.ble_eq_true_of_le (by
        rw [ba_size, List.length_append, List.length_replicate, show (⟨#[48]⟩ : ByteArray).size = 1 from rfl]; omega)
      have e1 : ba (T ++ List.replicate c 48) ++ (⟨#[48]⟩ : ByteArray) = ba (T ++ List.replicate (c + 1) 48) := by
        rw [show (⟨#[48]⟩ : ByteArray) = ba [48] from rfl, ba_app, List.append_assoc]
        congr 2
        rw [← List.replicate_one, List.replicate_append_replicate]
      simp only [c1, c2, if_true, e1]
      exact ih (c + 1) (by omega)
  have c4 : ∃ (d : Bool × List Int × Int × Unit) (ok : Bool), Ev (fun k => F173c4 k neg (ba T) e false [] 0 (scl e T)) ((d, ok, ()), ((), (), (), ())) ∧
      (ok = true ↔ e ≤ 30 ∧ scl e T ≤ 12 ∧ T.length ≤ 30 ∧ decOk neg (digs (dv (padD e T))) (scl e T) = true) ∧ (ok = true → d = (neg, digs (dv (padD e T)), scl e T, ())) := by
    by_cases h30 : e > 30
    · refine ⟨(false, [], 0, ()), false, Ev.step 1 (fun k => F173c4_eq k _ _ _ _ _ _ _) ?_, ⟨fun h => (by cases h), fun h => (by omega)⟩, fun h => (by cases h)⟩
      simp only [decide_eq_true h30, if_true]
      exact Ev.now _
    by_cases hs : scl e T > 12
    · refine ⟨(false, [], 0, ()), false, Ev.step 1 (fun k => F173c4_eq k _ _ _ _ _ _ _) ?_, ⟨fun h => (by cases h), fun h => (by omega)⟩, fun h => (by cases h)⟩
      simp only [decide_eq_false h30, decide_eq_true hs, Bool.false_eq_true, if_false, if_true]
      exact Ev.now _
    by_cases hl3 : T.length > 30
    · refine ⟨(false, [], 0, ()), false, Ev.step 1 (fun k => F173c4_eq k _ _ _ _ _ _ _) ?_, ⟨fun h => (by cases h), fun h => (by omega)⟩, fun h => (by cases h)⟩
      simp only [decide_eq_false h30, decide_eq_false hs, decide_eq_true (show ((ba T).size : Int) > 30 by rw [ba_size]; omega), Bool.false_eq_true, if_false, if_true]
      exact Ev.now _
    · refine ⟨_, _, Ev.step 1 (fun k => F173c4_eq k _ _ _ _ _ _ _) ?_, ⟨fun h => ⟨by omega, by omega, by omega, h⟩, fun h => h.2.2.2⟩, fun _ => rfl⟩
      simp only [decide_eq_false h30, decide_eq_false hs, decide_eq_false (show ¬ ((ba T).size : Int) > 30 by rw [ba_size]; omega), Bool.false_eq_true, if_false]
      have := pad (by omega) (by omega) (e - (T.length : Int)).toNat 0 (by omega)
      rw [List.replicate_zero, List.append_nil] at this
      exact this
  obtain ⟨d, ok, h1, h2, h3⟩ := c4
  refine ⟨d, ok, Ev.step 2 (fun k => F173_eq k _ _ _) ?_, h2, h3⟩
  unfold scl at h1
  by_cases h : e < (T.length : Int)
  · rw [if_pos h] at h1
    have h' : decide (e < ((ba T).size : Int)) = true := decide_eq_true h
    have hw : IntKind.i64.wrap (((ba T).size : Int) - e) = (T.length : Int) - e := wrap64 (show -9223372036854775808 ≤ (T.length : Int) - e by omega) (show (T.length : Int) - e ≤ 9223372036854775807 by omega)
    simp only [h', if_true, hw]
    exact h1
  · rw [if_neg h] at h1
    have h' : decide (e < ((ba T).size : Int)) = false := decide_eq_false h
    simp only [h', Bool.false_eq_true, if_false]
    exact h1
end Go.Proofs.YtiojgdjpigcgaaaGreatDoor.R
end

section
/-! Rf: a key is read back (the other side): a number's key, whole. -/
set_option autoImplicit false
set_option linter.unusedSimpArgs false
set_option linter.unusedVariables false
namespace Go.Proofs.YtiojgdjpigcgaaaGreatDoor.R
open Go.Rf
theorem snoc_of {T : List UInt8} (h : T ≠ []) : ∃ P b, T = P ++ [b] ∧ T.getD (T.length - 1) 0 = b := by
  refine ⟨T.dropLast, T.getLast h, (List.dropLast_concat_getLast h).symm, ?_⟩
  rw [List.getD_eq_getElem?_getD, ← List.getLast?_eq_getElem?, List.getLast?_eq_some_getLast h]
  rfl
theorem dd_of : ∀ (n : Nat) (T : List UInt8), T.length = n + 1 → Dig T → T.getD 0 0 ≠ 48 → Lib.decDigits (dv T) = T := by
  intro n
  induction n with
  | zero =>
    intro T hl hd h0
    match T, hl with
    | [b], _ =>
      have hb := hd b (by simp)
      have : b.toNat ≠ 48 := fun e => h0 (UInt8.toNat_inj.1 e)
      rw [dv_one, dd1 (by omega)]
      congr 1
      refine UInt8.toNat_inj.1 ?_
      rw [UInt8.toNat_ofNat']
      omega
  | succ n ih =>
    intro T hl hd h0
    obtain ⟨P, b, rfl, _⟩ := snoc_of (T := T) (by intro e; rw [e] at hl; cases hl)
    rw [List.length_append, List.length_singleton] at hl
    have hP : Dig P := fun x hx => hd x (List.mem_append_left _ hx)
    have hb := hd b (by simp)
    have h0' : P.getD 0 0 ≠ 48 := by
      rw [List.getD_eq_getElem?_getD, List.getElem?_append_left (by omega)] at h0
      rw [List.getD_eq_getElem?_getD]
      exact h0
    have g := ih P (by omega) hP h0'
    have hpos : dv P ≠ 0 := by
      intro e
      rw [e, dd1 (by omega)] at g
      rw [← g] at h0'
      exact h0' rfl
    rw [dv_app, dv_one, List.length_singleton, Nat.pow_one, ddS (by omega), show (dv P * 10 + (b.toNat - 48)) / 10 = dv P by omega, g]
    congr 2
    refine UInt8.toNat_inj.1 ?_
    rw [UInt8.toNat_ofNat']
    omega
theorem dd_head : ∀ (n : Nat), 0 < n → (Lib.decDigits n).getD 0 0 ≠ 48 := by
  intro n
  induction n using Nat.strongRecOn with
  | _ n ih =>
    intro hn
    by_cases h : n < 10
    · rw [dd1 h]
      intro e
      have := congrArg UInt8.toNat (show UInt8.ofNat (48 + n) = 48 from e)
      rw [UInt8.toNat_ofNat'] at this
      have h48 : (48 : UInt8).toNat = 48 := rfl
      omega
    · rw [ddS h]
      have g := ih (n / 10) (by omega) (by omega)
      have hl : 0 < (Lib.decDigits (n / 10)).length := (dd_lt _ (n / 10) rfl).1
      rw [List.getD_eq_getElem?_getD, List.getElem?_append_left hl, ← List.getD_eq_getElem?_getD]
      exact g
theorem trim_full {T : List UInt8} (h : T ≠ []) (hl : T.getD (T.length - 1) 0 ≠ 48) (k : Nat) : Lib.trimRightB (T ++ List.replicate k 48) 48 = T := by
  rw [trim_rep]
  obtain ⟨P, b, rfl, hb⟩ := snoc_of h
  rw [hb] at hl
  exact trimB_keep P b hl
/-- figures with neither nought ahead nor nought behind, and where the dot stands -/
structure Fg (e : Int) (T : List UInt8) : Prop where
  d : Dig T
  ne : T ≠ []
  head : T.getD 0 0 ≠ 48
  last : T.getD (T.length - 1) 0 ≠ 48
  e30 : e ≤ 30
  s12 : scl e T ≤ 12
  l30 : T.length ≤ 30
theorem Fg.key {e : Int} {T : List UInt8} (h : Fg e T) (neg : Bool) {g : UInt8} (hg : e = (g.toNat : Int) - 64) : ∃ (z : Int) (t : Nat), neg = decide (z < 0) ∧ z.natAbs = dv (padD e T) ∧ scl e T = (t : Int) ∧ t ≤ 12 ∧ z.natAbs < 10 ^ 30 ∧ (t = 0 ∨ z % 10 ≠ 0) ∧ NumX (z * 10 ^ (12 - t)) (nk neg g T) := by
  have hg2 := UInt8.toNat_lt g
  have hl : 0 < T.length := List.length_pos_iff.2 h.ne
  obtain ⟨n, hn⟩ : ∃ n, T.length = n + 1 := ⟨T.length - 1, by omega⟩
  have hp : Dig (padD e T) := padD_dig h.d
  have hpl : (padD e T).length = T.length + (e - (T.length : Int)).toNat := by unfold padD; rw [List.length_append, List.length_replicate]
  have hl30 := h.l30
  have he30 := h.e30
  have hpl30 : (padD e T).length ≤ 30 := by omega
  have hhead : (padD e T).getD 0 0 ≠ 48 := by
    unfold padD
    rw [List.getD_eq_getElem?_getD, List.getElem?_append_left hl, ← List.getD_eq_getElem?_getD]
    exact h.head
  have hdd := dd_of (n + (e - (T.length : Int)).toNat) (padD e T) (by omega) hp hhead
  have hlt : dv (padD e T) < 10 ^ 30 := Nat.lt_of_lt_of_le (dv_lt hp) (Nat.pow_le_pow_right (by omega) hpl30)
  have hpos : 0 < dv (padD e T) := by
    refine Nat.pos_of_ne_zero fun h0 => ?_
    rw [h0, dd1 (by omega)] at hdd
    rw [← hdd] at hhead
    exact hhead rfl
  obtain ⟨t, ht⟩ : ∃ t : Nat, scl e T = (t : Int) := ⟨(scl e T).toNat, by unfold scl; split <;> omega⟩
  have ht12 : t ≤ 12 := by have := h.s12; omega
  have hlast : dv T % 10 ≠ 0 := by
    obtain ⟨P, b, hT, hb⟩ := snoc_of h.ne
    have hbd := h.d b (by rw [hT]; simp)
    have hb48 : b.toNat ≠ 48 := fun e => h.last (by rw [hb]; exact UInt8.toNat_inj.1 e)
    rw [hT, dv_app, dv_one, List.length_singleton, Nat.pow_one]
    omega
  have hcan : t = 0 ∨ dv (padD e T) % 10 ≠ 0 := by
    unfold scl at ht
    by_cases c : e < (T.length : Int)
    · right
      unfold padD
      rw [show (e - (T.length : Int)).toNat = 0 by omega, List.replicate_zero, List.append_nil]
      exact hlast
    · rw [if_neg c] at ht
      left; omega
  have hpow : (0 : Int) < 10 ^ (12 - t) := Int.pow_pos (by omega)
  have fin : ∀ z : Int, z.natAbs = dv (padD e T) → neg = decide (z < 0) → NumX (z * 10 ^ (12 - t)) (nk neg g T) := by
    intro z hz hs
    refine .inr ⟨dv (padD e T), t, hpos, by rw [hdd]; exact hpl30, ht12, ?_, ?_⟩
    · rw [Int.natAbs_mul, hz, Int.natAbs_pow]; rfl
    · have hsg : decide (z * 10 ^ (12 - t) < 0) = neg := by
        rw [hs, decide_eq_decide]
        constructor
        · intro h
          refine Decidable.by_contra fun hn => ?_
          have := Int.mul_nonneg (show 0 ≤ z by omega) (Int.le_of_lt hpow)
          omega
        · intro h
          exact Int.mul_neg_of_neg_of_pos h hpow
      have hgg : u8 (64 + (((Lib.decDigits (dv (padD e T))).length : Nat) : Int) - (t : Int)) = g := by
        refine UInt8.toNat_inj.1 ?_
        have a := u8_nat (64 + (((Lib.decDigits (dv (padD e T))).length : Nat) : Int) - (t : Int))
        have : 64 + (((Lib.decDigits (dv (padD e T))).length : Nat) : Int) - (t : Int) = (g.toNat : Int) := by
          rw [hdd, hpl]
          unfold scl at ht
          split at ht <;> omega
        have a' := a.trans (show _ = (g.toNat : Int) by rw [this, Int.emod_eq_of_lt (by omega) (by omega)])
        omega
      rw [hsg, hgg, hdd]
      congr 1
      unfold padD
      exact (trim_full h.ne h.last _).symm
  cases neg with
  | false => exact ⟨(dv (padD e T) : Int), t, (decide_eq_false (by omega)).symm, Int.natAbs_natCast _, ht, ht12, by rw [Int.natAbs_natCast]; exact hlt, by omega, fin _ (Int.natAbs_natCast _) (decide_eq_false (by omega)).symm⟩
  | true => exact ⟨-(dv (padD e T) : Int), t, (decide_eq_true (by omega)).symm, by omega, ht, ht12, by omega, by omega, fin _ (by omega) (decide_eq_true (by omega)).symm⟩
/-- and back -/
theorem numX_fg {z : Int} {t : Nat} {B : List UInt8} (ht : t ≤ 12) (hc : t = 0 ∨ z % 10 ≠ 0) (h : NumX (z * 10 ^ (12 - t)) B) : (z = 0 ∧ t = 0 ∧ B = [128]) ∨ ∃ (g : UInt8) (T : List UInt8), B = nk (decide (z < 0)) g T ∧ Fg ((g.toNat : Int) - 64) T ∧ dv (padD ((g.toNat : Int) - 64) T) = z.natAbs ∧ scl ((g.toNat : Int) - 64) T = (t : Int) := by
  have hpow : (0 : Int) < 10 ^ (12 - t) := Int.pow_pos (by omega)
  rcases h with ⟨h0, rfl⟩ | ⟨V, r, hV, hl, hr, hA, rfl⟩
  · have hz : z = 0 := by
      rcases Int.mul_eq_zero.1 h0 with h | h
      · exact h
      · omega
    subst hz
    exact .inl ⟨rfl, hc.resolve_right (by decide), rfl⟩
  · right
    obtain ⟨T, j, eT, hne, hd, hw, hm, hlen, hdd⟩ := trim_dd hV
    have hA' : z.natAbs * 10 ^ (12 - t) = dv T * 10 ^ j * 10 ^ (12 - r) := by
      rw [← hw, ← hA, Int.natAbs_mul, Int.natAbs_pow]
      rfl
    obtain ⟨e1, e2⟩ := num_back ht hr hm (hc.imp_right fun h h' => h (by omega)) hA'
    have hsg : decide (z * 10 ^ (12 - t) < 0) = decide (z < 0) := by
      rw [decide_eq_decide]
      constructor
      · intro h
        refine Decidable.by_contra fun hn => ?_
        have := Int.mul_nonneg (show 0 ≤ z by omega) (Int.le_of_lt hpow)
        omega
      · intro h
        exact Int.mul_neg_of_neg_of_pos h hpow
    have hh := hdr_nat (n := T.length + j) (r := r) (by omega) hr
    have hl0 : 0 < T.length := List.length_pos_iff.2 hne
    refine ⟨u8 (64 + ((T.length + j : Nat) : Int) - r), T, by rw [hsg, eT, hlen], ?_, ?_, ?_⟩
    · rw [hh]
      refine ⟨hd, hne, ?_, ?_, by omega, by unfold scl; split <;> omega, by omega⟩
      · have g := dd_head V hV
        rw [hdd, List.getD_eq_getElem?_getD, List.getElem?_append_left hl0, ← List.getD_eq_getElem?_getD] at g
        exact g
      · obtain ⟨P, b, hT, hb⟩ := snoc_of hne
        rw [hb]
        intro e
        rw [hT, dv_app, dv_one, List.length_singleton, Nat.pow_one, e] at hm
        have h48 : (48 : UInt8).toNat = 48 := rfl
        omega
    · rw [hh]
      unfold padD
      rw [show (((T.length + j : Nat) : Int) - r - (T.length : Int)).toNat = j - r by omega, dv_app, dv_zeros, List.length_replicate, Nat.add_zero, e1]
    · rw [hh]
      unfold scl
      split <;> omega
theorem num11_ev {neg : Bool} {W : List UInt8} (hl : W.length ≤ 2000000) : ∃ (d : Bool × List Int × Int × Unit) (n : Int), Ev (fun k => F131c11 k 1 false [] 0 neg (ba W)) ((d, n, ()), ((), (), ())) ∧
    (n > 0 → ∃ (g : UInt8) (T R : List UInt8), W = g :: (T.map gb ++ 0 :: R) ∧ Fg ((g.toNat : Int) - 64) T ∧ decOk neg (digs (dv (padD ((g.toNat : Int) - 64) T))) (scl ((g.toNat : Int) - 64) T) = true ∧ d = (neg, digs (dv (padD ((g.toNat : Int) - 64) T)), scl ((g.toNat : Int) - 64) T, ()) ∧ n = 4 + (T.length : Int)) ∧
    (∀ (g : UInt8) (T R : List UInt8), W = g :: (T.map gb ++ 0 :: R) → Fg ((g.toNat : Int) - 64) T → decOk neg (digs (dv (padD ((g.toNat : Int) - 64) T))) (scl ((g.toNat : Int) - 64) T) = true → n > 0) := by
  have he := l5End_ev hl
  cases hz : fz (W.drop 1) with
  | none =>
    rw [hz] at he
    replace he : Ev (fun k => F133 k (ba W) 1) (((-1 : Int), ()), ((), (), ())) := he
    refine ⟨(false, [], 0, ()), -1, Ev.step 1 (fun k => F131c11_eq k _ _ _ _ _ _) (Ev.bind he ?_), fun h => absurd h (by decide), fun g T R hW h _ => ?_⟩
    · simp only [show decide ((-1 : Int) < 0) = true from rfl, if_true]
      exact Ev.now _
    · rw [hW, List.drop_succ_cons, List.drop_zero, fz_app _ _ (gb_up47 h.d).2.2] at hz
      cases hz
  | some j =>
    rw [hz] at he
    replace he : Ev (fun k => F133 k (ba W) 1) ((((1 + j : Nat) : Int), ()), ((), (), ())) := he
    obtain ⟨R, h1, h2, h3⟩ := fz_some hz
    obtain ⟨g, W', rfl⟩ : ∃ g W', W = g :: W' := by
      cases W with
      | nil => simp [fz] at hz
      | cons g W' => exact ⟨g, W', rfl⟩
    rw [List.drop_succ_cons, List.drop_zero] at h1 h2 h3
    have hg := UInt8.toNat_lt g
    have hlw : W'.length = j + (1 + R.length) := by
      conv => lhs; rw [h1]
      rw [List.length_append, h3, List.length_cons]
      omega
    rw [List.length_cons] at hl
    have ex : (ba (g :: W')).extract 1 ((1 + j : Nat) : Int).toNat = ba (W'.take j) := by
      rw [ba_extract, Int.toNat_natCast, Nat.add_comm, List.take_succ_cons, List.drop_succ_cons, List.drop_zero]
    have c1 : (decide (0 ≤ (1 : Int)) && decide ((1 : Int) ≤ ((1 + j : Nat) : Int)) && decide (((1 + j : Nat) : Int) ≤ ((ba (g :: W')).size : Int))) = true := by
      rw [ba_size, List.length_cons]; simp; omega
    have hfig := figsS_ev (F := W'.take j) (by rw [h3]; omega)
    have start : ∀ {r}, Ev (fun k => if ((ba (figS (W'.take j))).toList == (⟨#[]⟩ : ByteArray).toList) = true then some (((false, ([] : List Int), (0 : Int), ()), (-1 : Int), ()), ((), (), ())) else ((ba (g :: W'))[0]?).bind fun u10 => (F173 k neg (ba (figS (W'.take j))) (IntKind.i64.wrap ((IntKind.i64.wrap (u10.toNat : Int)) - (64 : Int)))).bind fun r11 => if (!r11.1.2.1) = true then some (((false, ([] : List Int), (0 : Int), ()), (-1 : Int), ()), ((), (), ())) else some (((r11.1.1.1, r11.1.1.2.1, r11.1.1.2.2.1, ()), (IntKind.i64.wrap ((IntKind.i64.wrap ((IntKind.i64.wrap ((1 : Int) + (1 : Int))) + ((1 + j : Nat) : Int))) + (1 : Int))), ()), ((), (), ()))) r →
        Ev (fun k => F131c11 k 1 false [] 0 neg (ba (g :: W'))) r := by
      intro r hr
      refine Ev.step 1 (fun k => F131c11_eq k _ _ _ _ _ _) (Ev.bind he ?_)
      simp only [decide_eq_false (show ¬ ((1 + j : Nat) : Int) < 0 by omega), Bool.false_eq_true, if_false, c1, if_true, ex]
      refine Ev.bind hfig ?_
      exact hr
    by_cases hf : figS (W'.take j) = []
    · refine ⟨(false, [], 0, ()), -1, start ?_, fun h => absurd h (by decide), fun g' T R' hW h _ => ?_⟩
      · rw [hf]
        have : ((ba []).toList == (⟨#[]⟩ : ByteArray).toList) = true := by rw [Lib.toList_data, Lib.toList_data]; rfl
        simp only [this, if_true]
        exact Ev.now _
      · obtain ⟨rfl, rfl⟩ := List.cons.inj hW
        obtain ⟨q1, q2, q3⟩ := gb_up47 h.d
        have ej : j = (T.map gb).length := by
          rw [List.drop_succ_cons, List.drop_zero, fz_app _ _ q3] at hz
          exact (Option.some.inj hz).symm
        rw [ej, List.take_left] at hf
        unfold figS at hf
        rw [if_pos ⟨q1, by rw [ne_eq, List.map_eq_nil_iff]; exact h.ne, by rw [q2]; exact h.head, by rw [q2, List.length_map]; exact h.last⟩, q2] at hf
        exact absurd hf h.ne
    · have hne : ((ba (figS (W'.take j))).toList == (⟨#[]⟩ : ByteArray).toList) = false := by
        rw [Lib.toList_data, Lib.toList_data, beq_eq_false_iff_ne]
        exact hf
      obtain ⟨F, hF⟩ : ∃ F, F = W'.take j := ⟨_, rfl⟩
      have hfs : F.all okF = true ∧ F ≠ [] ∧ (F.map up47).getD 0 0 ≠ 48 ∧ (F.map up47).getD (F.length - 1) 0 ≠ 48 := by
        rw [← hF] at hf
        unfold figS at hf
        by_cases c : F.all okF = true ∧ F ≠ [] ∧ (F.map up47).getD 0 0 ≠ 48 ∧ (F.map up47).getD (F.length - 1) 0 ≠ 48
        · exact c
        · rw [if_neg c] at hf; exact absurd rfl hf
      have hfe : figS F = F.map up47 := by unfold figS; rw [if_pos hfs]
      have hdT : Dig (F.map up47) := up47_dig hfs.1
      obtain ⟨d, ok, hdec, hok, hd⟩ := decOf_ev (neg := neg) hdT (by rw [List.length_map, hF, h3]; omega) (e := (g.toNat : Int) - 64) (by omega)
      have hsame : ∀ (g' : UInt8) (T R' : List UInt8), g :: W' = g' :: (T.map gb ++ 0 :: R') → Dig T → g' = g ∧ T = F.map up47 := by
        intro g' T R' hW hT
        obtain ⟨rfl, rfl⟩ := List.cons.inj hW
        obtain ⟨q1, q2, q3⟩ := gb_up47 hT
        have ej : j = (T.map gb).length := by
          rw [List.drop_succ_cons, List.drop_zero, fz_app _ _ q3] at hz
          exact (Option.some.inj hz).symm
        rw [ej, List.take_left] at hF
        rw [hF]
        exact ⟨rfl, q2.symm⟩
      have g0 : (ba (g :: W'))[0]? = some g := by rw [ba_get]; rfl
      have ew : IntKind.i64.wrap (IntKind.i64.wrap (g.toNat : Int) - 64) = (g.toNat : Int) - 64 := by
        rw [wrap64 (show -9223372036854775808 ≤ (g.toNat : Int) by omega) (by omega), wrap64 (by omega) (by omega)]
      have en : IntKind.i64.wrap (IntKind.i64.wrap (IntKind.i64.wrap ((1 : Int) + 1) + ((1 + j : Nat) : Int)) + 1) = 4 + (j : Int) := by
        rw [wrap64 (show -9223372036854775808 ≤ (1 : Int) + 1 by omega) (by omega), wrap64 (show -9223372036854775808 ≤ (1 : Int) + 1 + ((1 + j : Nat) : Int) by omega) (by omega), wrap64 (by omega) (by omega)]
        omega
      cases ok with
      | false =>
        refine ⟨(false, [], 0, ()), -1, start ?_, fun h => absurd h (by decide), fun g' T R' hW h hk => ?_⟩
        · simp only [hne, Bool.false_eq_true, if_false, g0, Option.bind_some, ew]
          rw [← hF, hfe]
          refine Ev.bind hdec ?_
          simp only [Bool.not_false, if_true]
          exact Ev.now _
        · obtain ⟨rfl, rfl⟩ := hsame g' T R' hW h.d
          have := hok.2 ⟨h.e30, h.s12, h.l30, hk⟩
          cases this
      | true =>
        have hd := hd rfl
        obtain ⟨k1, k2, k3, k4⟩ := hok.1 rfl
        refine ⟨d, 4 + (j : Int), start ?_, fun _ => ⟨g, F.map up47, R, ?_, ⟨hdT, by rw [ne_eq, List.map_eq_nil_iff]; exact hfs.2.1, hfs.2.2.1, by rw [List.length_map]; exact hfs.2.2.2, k1, k2, k3⟩, k4, hd, by rw [List.length_map, hF, h3]⟩, fun _ _ _ _ _ _ => by omega⟩
        · simp only [hne, Bool.false_eq_true, if_false, g0, Option.bind_some, ew]
          rw [← hF, hfe]
          refine Ev.bind hdec ?_
          simp only [Bool.not_true, Bool.false_eq_true, if_false, en]
          exact Ev.now _
        · rw [up47_gb hfs.1, hF, ← h1]
end Go.Proofs.YtiojgdjpigcgaaaGreatDoor.R
end

section
/-! Rf: a key is read back (the other side): all kinds. -/
set_option autoImplicit false
set_option linter.unusedSimpArgs false
set_option linter.unusedVariables false
namespace Go.Proofs.YtiojgdjpigcgaaaGreatDoor.R
open Go.Rf
theorem numX_head {x : Int} {B : List UInt8} (h : NumX x B) : ∃ b C, B = b :: C ∧ (b = 128 ∨ b = 127 ∨ b = 129) := by
  rcases h with ⟨_, rfl⟩ | ⟨V, r, _, _, _, _, rfl⟩
  · exact ⟨_, _, rfl, .inl rfl⟩
  · cases decide (x < 0) with
    | true => exact ⟨_, _, rfl, .inr (.inl rfl)⟩
    | false => exact ⟨_, _, rfl, .inr (.inr rfl)⟩
theorem numGet_ev {h : UInt8} {rest : List UInt8} (hl : rest.length ≤ 1900000) : ∃ (d : Bool × List Int × Int × Unit) (n : Int), Ev (fun k => F131 k (ba (h :: rest)) 1) ((d, n, ()), ((), (), ())) ∧
    (n > 0 → ∃ (z : Int) (t : Nat) (B R : List UInt8), t ≤ 12 ∧ z.natAbs < 10 ^ 30 ∧ (t = 0 ∨ z % 10 ≠ 0) ∧ d = (decide (z < 0), digs z.natAbs, (t : Int), ()) ∧ NumX (z * 10 ^ (12 - t)) B ∧ rest = B ++ R ∧ n = 1 + (B.length : Int)) ∧
    (∀ (z : Int) (t : Nat) (B R : List UInt8), t ≤ 12 → z.natAbs < 10 ^ 30 → (t = 0 ∨ z % 10 ≠ 0) → NumX (z * 10 ^ (12 - t)) B → rest = B ++ R → n > 0) := by
  match rest, hl with
  | [], _ =>
    refine ⟨(false, [], 0, ()), -1, Ev.step 2 (fun k => F131_eq k _ _) ?_, fun h => absurd h (by decide), fun z t B R _ _ _ hX e => ?_⟩
    · have c : decide ((1 : Int) ≥ ((ba [h]).size : Int)) = true := rfl
      simp only [c, if_true]
      exact Ev.now _
    · obtain ⟨b, C, rfl, _⟩ := numX_head hX
      cases e
  | b0 :: W, hl =>
    rw [List.length_cons] at hl
    have c0 : decide ((1 : Int) ≥ ((ba (h :: b0 :: W)).size : Int)) = false := decide_eq_false (by rw [ba_size, List.length_cons, List.length_cons]; omega)
    have g1 : (ba (h :: b0 :: W))[(1 : Int).toNat]? = some b0 := by rw [ba_get]; rfl
    have e2 : IntKind.i64.wrap ((1 : Int) + 1) = 2 := rfl
    have c2 : (decide (0 ≤ (2 : Int)) && decide ((2 : Int) ≤ ((ba (h :: b0 :: W)).size : Int))) = true := by rw [ba_size, List.length_cons, List.length_cons]; simp; omega
    have ex : (ba (h :: b0 :: W)).extract (2 : Int).toNat (ba (h :: b0 :: W)).size = ba W := by
      rw [ba_extract, ba_size, List.take_length]
      rfl
    have q : ∀ (b : UInt8) (m : Nat), m < 256 → ((b.toNat : Int) == (m : Int)) = decide (b = UInt8.ofNat m) := fun b m hm => by
      by_cases e : b = UInt8.ofNat m
      · subst e
        rw [decide_eq_true rfl, UInt8.toNat_ofNat', beq_iff_eq]
        omega
      · rw [decide_eq_false e, beq_eq_false_iff_ne]
        intro h
        refine e (UInt8.toNat_inj.1 ?_)
        rw [UInt8.toNat_ofNat']
        omega
    have q128 : ((b0.toNat : Int) == 128) = decide (b0 = 128) := q b0 128 (by omega)
    have q127 : ((b0.toNat : Int) == 127) = decide (b0 = 127) := q b0 127 (by omega)
    have q129 : ((b0.toNat : Int) == 129) = decide (b0 = 129) := q b0 129 (by omega)
    have n127 : ((b0.toNat : Int) != 127) = !decide (b0 = 127) := by show (!((b0.toNat : Int) == 127)) = _; rw [q127]
    have n129 : ((b0.toNat : Int) != 129) = !decide (b0 = 129) := by show (!((b0.toNat : Int) == 129)) = _; rw [q129]
    by_cases h128 : b0 = 128
    · refine ⟨(false, [], 0, ()), 2, Ev.step 2 (fun k => F131_eq k _ _) ?_, fun _ => ⟨0, 0, [128], W, by omega, by decide, .inl rfl, by rw [show (0 : Int).natAbs = 0 from rfl, digs_zero]; rfl, .inl ⟨by simp, rfl⟩, by rw [h128]; rfl, rfl⟩, fun _ _ _ _ _ _ _ _ _ => by omega⟩
      simp only [c0, Bool.false_eq_true, if_false, show decide (0 ≤ (1 : Int)) = true from rfl, if_true, g1, Option.bind_some, q128, decide_eq_true h128, e2]
      exact Ev.now _
    have d128 := decide_eq_false h128
    by_cases h7 : b0 = 127
    · obtain ⟨d, n, e1, p1, p2⟩ := num11_ev (neg := true) (W := flip W) (by rw [flip_len]; omega)
      refine ⟨d, n, Ev.step 2 (fun k => F131_eq k _ _) ?_, fun hn => ?_, fun z t B R ht hz hc hX e => ?_⟩
      · simp only [c0, Bool.false_eq_true, if_false, show decide (0 ≤ (1 : Int)) = true from rfl, if_true, g1, Option.bind_some, q128, d128, n127, q127, decide_eq_true h7, Bool.not_true, e2, c2, ex]
        exact Ev.bind (l5Turn_ev W (by omega)) e1
      · obtain ⟨g, T, R, hW, hF, hk, hd, hn'⟩ := p1 hn
        obtain ⟨z, t, s1, s2, s3, s4, s5, s6, s7⟩ := hF.key true rfl
        refine ⟨z, t, _, flip R, s4, s5, s6, by rw [hd, ← s1, ← s2, s3], s7, ?_, ?_⟩
        · rw [nk_neg, h7]
          show (127 : UInt8) :: W = 127 :: (flip (g :: dig T) ++ flip R)
          congr 1
          rw [← flip_app, ← flip_flip W, hW]
          congr 1
          unfold dig
          simp
        · rw [hn', nk_neg, List.length_cons, flip_len, List.length_cons, dig_len]
          omega
      · rcases numX_fg ht hc hX with ⟨_, _, rfl⟩ | ⟨g, T, hB, hF, hv, hs⟩
        · have := (List.cons.inj e).1
          exact absurd this h128
        · cases hn : decide (z < 0) with
          | false =>
            rw [hn, nk_pos] at hB
            rw [hB] at e
            have := (List.cons.inj e).1
            rw [h7] at this
            exact absurd this (by decide)
          | true =>
            rw [hn, nk_neg] at hB
            rw [hB] at e
            have eW : W = flip (g :: dig T) ++ R := (List.cons.inj e).2
            refine p2 g T (flip R) ?_ hF ?_
            · rw [eW, flip_app, flip_flip]
              unfold dig
              simp
            · rw [hv, hs]
              have := decOk_D (z := z) (s := t) hz ht
              rw [hn] at this
              exact this
    by_cases h9 : b0 = 129
    · obtain ⟨d, n, e1, p1, p2⟩ := num11_ev (neg := false) (W := W) (by omega)
      refine ⟨d, n, Ev.step 2 (fun k => F131_eq k _ _) ?_, fun hn => ?_, fun z t B R ht hz hc hX e => ?_⟩
      · simp only [c0, Bool.false_eq_true, if_false, show decide (0 ≤ (1 : Int)) = true from rfl, if_true, g1, Option.bind_some, q128, d128, n127, q127, n129, decide_eq_false h7, decide_eq_true h9, Bool.not_true, Bool.not_false, e2, c2, ex]
        exact e1
      · obtain ⟨g, T, R, hW, hF, hk, hd, hn'⟩ := p1 hn
        obtain ⟨z, t, s1, s2, s3, s4, s5, s6, s7⟩ := hF.key false rfl
        refine ⟨z, t, _, R, s4, s5, s6, by rw [hd, ← s1, ← s2, s3], s7, ?_, ?_⟩
        · rw [nk_pos, h9, hW]
          unfold dig
          simp
        · rw [hn', nk_pos, List.length_cons, List.length_cons, dig_len]
          omega
      · rcases numX_fg ht hc hX with ⟨_, _, rfl⟩ | ⟨g, T, hB, hF, hv, hs⟩
        · have := (List.cons.inj e).1
          exact absurd this h128
        · cases hn : decide (z < 0) with
          | true =>
            rw [hn, nk_neg] at hB
            rw [hB] at e
            have := (List.cons.inj e).1
            rw [h9] at this
            exact absurd this (by decide)
          | false =>
            rw [hn, nk_pos] at hB
            rw [hB] at e
            have eW : W = (g :: dig T) ++ R := (List.cons.inj e).2
            refine p2 g T R ?_ hF ?_
            · rw [eW]
              unfold dig
              simp
            · rw [hv, hs]
              have := decOk_D (z := z) (s := t) hz ht
              rw [hn] at this
              exact this
    · refine ⟨(false, [], 0, ()), -1, Ev.step 2 (fun k => F131_eq k _ _) ?_, fun h => absurd h (by decide), fun z t B R _ _ _ hX e => ?_⟩
      · simp only [c0, Bool.false_eq_true, if_false, show decide (0 ≤ (1 : Int)) = true from rfl, if_true, g1, Option.bind_some, q128, d128, n127, q127, n129, decide_eq_false h7, decide_eq_false h9, Bool.not_false]
        exact Ev.now _
      · obtain ⟨b, C, rfl, hb⟩ := numX_head hX
        have := (List.cons.inj e).1
        subst this
        rcases hb with hb | hb | hb
        · exact absurd hb h128
        · exact absurd hb h7
        · exact absurd hb h9
theorem num3_ev {L : List UInt8} {i : Nat} (h : i + 2 < L.length) (hl : L.length ≤ 2000000) : Ev (fun k => F132 k (ba L) (i : Int)) (((n3 (L[i]'(by omega)) (L[i + 1]'(by omega)) L[i + 2] : Int), ()), ((), (), ())) := by
  have x := UInt8.toNat_lt (L[i]'(by omega))
  have y := UInt8.toNat_lt (L[i + 1]'(by omega))
  have z := UInt8.toNat_lt L[i + 2]
  have w : ∀ n : Nat, n < 4294967296 → IntKind.i64.wrap (n : Int) = (n : Int) := fun n h => wrap64 (by omega) (by omega)
  have e1 : IntKind.i64.wrap ((i : Int) + 1) = ((i + 1 : Nat) : Int) := by rw [wrap64 (by omega) (by omega)]; omega
  have e2 : IntKind.i64.wrap ((i : Int) + 2) = ((i + 2 : Nat) : Int) := by rw [wrap64 (by omega) (by omega)]; omega
  refine Ev.step 2 (fun k => F132_eq k _ _) ?_
  simp only [e1, e2, ge0, if_true, Int.toNat_natCast, ba_at (show i < L.length by omega), ba_at (show i + 1 < L.length by omega), ba_at h, Option.bind_some, w _ (show (L[i]'(by omega)).toNat < 4294967296 by omega), w _ (show (L[i + 1]'(by omega)).toNat < 4294967296 by omega), w _ (show L[i + 2].toNat < 4294967296 by omega)]
  have m1 : IntKind.i64.wrap (((L[i]'(by omega)).toNat : Int) * 65536) = (((L[i]'(by omega)).toNat * 65536 : Nat) : Int) := by rw [wrap64 (by omega) (by omega)]; omega
  have m2 : IntKind.i64.wrap (((L[i + 1]'(by omega)).toNat : Int) * 256) = (((L[i + 1]'(by omega)).toNat * 256 : Nat) : Int) := by rw [wrap64 (by omega) (by omega)]; omega
  rw [m1, m2, ← Int.natCast_add, w _ (by omega), ← Int.natCast_add, w _ (by omega)]
  exact Ev.now _
end Go.Proofs.YtiojgdjpigcgaaaGreatDoor.R
end

section
/-! Rf: a key is read back: both sides alike. -/
set_option autoImplicit false
set_option linter.unusedSimpArgs false
set_option linter.unusedVariables false
namespace Go.Proofs.YtiojgdjpigcgaaaGreatDoor.R
open Go.Rf
theorem noText_e : noText ByteArray.empty = true := by
  unfold noText
  rw [Lib.toList_data, Lib.toList_data]
  rfl
theorem vOk_mk {k0 : Int} {y n : Bool} {l : List Int} {s day mo da : Int} {t : ByteArray} (hk : 0 ≤ k0 ∧ k0 ≤ 5) (f1 : k0 ≠ 1 → y = false) (f2 : k0 ≠ 2 → n = false ∧ l = [] ∧ s = 0) (f3 : k0 ≠ 3 → day = 0) (f4 : k0 ≠ 4 → mo = 0 ∧ da = 0) (f5 : k0 ≠ 5 → t = ByteArray.empty)
    (b2 : k0 = 2 → decOk n l s = true) (b3 : k0 = 3 → dayOk day = true) (b4 : k0 = 4 → spanOk mo da = true) (b5 : k0 = 5 → textOk t = true) : vOk k0 y n l s day mo da t = true := by
  have hh : k0 = 0 ∨ k0 = 1 ∨ k0 = 2 ∨ k0 = 3 ∨ k0 = 4 ∨ k0 = 5 := by omega
  have c2 : (k0 == 2 || decZ n l s) = true := by
    by_cases e : k0 = 2
    · rw [beq_iff_eq.2 e, Bool.true_or]
    · obtain ⟨rfl, rfl, rfl⟩ := f2 e; rw [Bool.or_eq_true]; exact .inr rfl
  have c1 : (k0 == 1 || !y) = true := by
    by_cases e : k0 = 1
    · rw [beq_iff_eq.2 e, Bool.true_or]
    · rw [f1 e, Bool.or_eq_true]; exact .inr rfl
  have c3 : (k0 == 3 || day == 0) = true := by
    by_cases e : k0 = 3
    · rw [beq_iff_eq.2 e, Bool.true_or]
    · rw [f3 e, Bool.or_eq_true]; exact .inr rfl
  have c4 : (k0 == 4 || (mo == 0 && da == 0)) = true := by
    by_cases e : k0 = 4
    · rw [beq_iff_eq.2 e, Bool.true_or]
    · obtain ⟨rfl, rfl⟩ := f4 e; rw [Bool.or_eq_true]; exact .inr rfl
  have c5 : (k0 == 5 || noText t) = true := by
    by_cases e : k0 = 5
    · rw [beq_iff_eq.2 e, Bool.true_or]
    · rw [f5 e, Bool.or_eq_true]; exact .inr noText_e
  unfold vOk bareOk bodyOk
  rw [within_iff'.2 hk, c1, c2, c3, c4, c5]
  simp only [Bool.and_self, Bool.true_and]
  rcases hh with rfl | rfl | rfl | rfl | rfl | rfl
  · rfl
  · rfl
  · exact b2 rfl
  · exact b3 rfl
  · exact b4 rfl
  · exact b5 rfl
theorem v0_ok : vE v0 = true := vOk_mk (show (0 : Int) ≤ 0 ∧ (0 : Int) ≤ 5 by omega) (fun _ => rfl) (fun _ => ⟨rfl, rfl, rfl⟩) (fun _ => rfl) (fun _ => ⟨rfl, rfl⟩) (fun _ => rfl) (fun e => (by cases e)) (fun e => (by cases e)) (fun e => (by cases e)) (fun e => (by cases e))
theorem text_nz {t : ByteArray} (h : textOk t = true) : (∀ b ∈ t.data.toList, b ≠ 0) ∧ t.size ≤ 12 := by
  unfold textOk figOk at h
  simp only [Bool.and_eq_true, decide_eq_true_eq, List.all_eq_true] at h
  refine ⟨fun b hb e => ?_, by omega⟩
  obtain ⟨i, hi, rfl⟩ := List.mem_iff_getElem.1 hb
  have hi' : i < t.size := by rw [← ByteArray.size_data, ← Array.length_toList]; exact hi
  have := within_iff'.1 (h.2 i (List.mem_range.2 hi'))
  have hb2 : bAt t i = ((t.data.toList[i]).toNat : Int) := by
    unfold bAt
    rw [getElem?_pos t i hi']
    rfl
  rw [hb2, e] at this
  have h0 : (0 : UInt8).toNat = 0 := rfl
  omega
theorem k3_of (x y z : UInt8) : k3 (n3 x y z : Int) = [x, y, z] := by
  have hx := UInt8.toNat_lt x
  have hy := UInt8.toNat_lt y
  have hz := UInt8.toNat_lt z
  have a := u8_nat ((n3 x y z : Int) / 65536)
  have b := u8_nat ((n3 x y z : Int) / 256)
  have c := u8_nat (n3 x y z : Int)
  unfold k3
  unfold n3 at a b c ⊢
  congr 1
  · exact UInt8.toNat_inj.1 (by omega)
  congr 1
  · exact UInt8.toNat_inj.1 (by omega)
  congr 1
  exact UInt8.toNat_inj.1 (by omega)
/-- the kind stands ahead -/
theorem kx_kind {v : Vl} {K : List UInt8} (hv : vE v = true) (hK : KX v K) {h : UInt8} {rest R : List UInt8} (e : h :: rest = K ++ R) : v.1 = (h.toNat : Int) - 1 ∧ ∃ B, BodyX v.1 v.2.1 v.2.2.1 v.2.2.2.1 v.2.2.2.2.1 v.2.2.2.2.2.1 v.2.2.2.2.2.2.1 v.2.2.2.2.2.2.2.1 v.2.2.2.2.2.2.2.2.1 B ∧ K = h :: B ∧ rest = B ++ R := by
  obtain ⟨B, S, rfl⟩ := hK
  have hk := vOk_kind (show vOk _ _ _ _ _ _ _ _ _ = true from hv)
  rw [k6 hk.1 hk.2] at e
  rw [k6 hk.1 hk.2]
  obtain ⟨rfl, e2⟩ := List.cons.inj (show h :: rest = UInt8.ofNat (v.1.toNat + 1) :: (B ++ R) from e)
  refine ⟨?_, B, S, rfl, e2⟩
  rw [UInt8.toNat_ofNat']
  omega
theorem kx_mk {v : Vl} {h : UInt8} {B : List UInt8} (hk : 0 ≤ v.1 ∧ v.1 ≤ 5) (e : v.1 = (h.toNat : Int) - 1) (S : BodyX v.1 v.2.1 v.2.2.1 v.2.2.2.1 v.2.2.2.2.1 v.2.2.2.2.2.1 v.2.2.2.2.2.2.1 v.2.2.2.2.2.2.2.1 v.2.2.2.2.2.2.2.2.1 B) : KX v (h :: B) := by
  refine ⟨B, S, ?_⟩
  rw [k6 hk.1 hk.2]
  congr 1
  refine UInt8.toNat_inj.1 ?_
  have := UInt8.toNat_lt h
  rw [UInt8.toNat_ofNat']
  omega
theorem small3a {h a : UInt8} : decide (((ba [h, a]).size : Int) > 3) = false := rfl
theorem small3b {h a b : UInt8} : decide (((ba [h, a, b]).size : Int) > 3) = false := rfl
/-- what the other side answers -/
def Good2 (h : UInt8) (rest : List UInt8) (v : Vl) (n : Int) : Prop :=
  (n > 0 ∨ n = -1) ∧ (n > 0 → vE v = true ∧ Can v ∧ ∃ K R, KX v K ∧ h :: rest = K ++ R ∧ n = (K.length : Int)) ∧ (∀ (v' : Vl) (K R : List UInt8), vE v' = true → Can v' → KX v' K → h :: rest = K ++ R → n > 0)
theorem body2_ev {h : UInt8} {rest : List UInt8} (hl : rest.length ≤ 1900000) : ∃ (v : Vl) (n : Int), Ev (fun k => F89 k (ba (h :: rest))) ((v, n, ()), ((), ())) ∧ Good2 h rest v n := by
  have hh := UInt8.toNat_lt h
  have g0 : (ba (h :: rest))[0]? = some h := by rw [ba_get]; rfl
  have ek : IntKind.i64.wrap (IntKind.i64.wrap (h.toNat : Int) - 1) = (h.toNat : Int) - 1 := by
    rw [wrap64 (show -9223372036854775808 ≤ (h.toNat : Int) by omega) (by omega), wrap64 (by omega) (by omega)]
  have fail : Ev (fun k => F89c24 k 0 false false [] 0 0 0 0 ByteArray.empty 0 false false [] 0 0 0 0 ByteArray.empty) ((v0, -1, ()), ((), ())) := Ev.step 1 (fun k => F89c24_eq k _ _ _ _ _ _ _ _ _ _ _ _ _ _ _ _ _ _) (Ev.now _)
  have nogood : (∀ (v' : Vl) (K R : List UInt8), vE v' = true → Can v' → KX v' K → h :: rest = K ++ R → False) → Good2 h rest v0 (-1) := fun hn => ⟨.inr rfl, fun hc => absurd hc (by decide), fun v' K R a b c d => (hn v' K R a b c d).elim⟩
  have hsz : (((ba (h :: rest)).size : Nat) : Int) = (rest.length : Int) + 1 := by rw [ba_size, List.length_cons]; omega
  by_cases k0 : h.toNat = 1
  · refine ⟨v0, 1, Ev.step 2 (fun k => F89_eq k _) ?_, .inl (by omega), fun _ => ⟨v0_ok, fun e => (by cases e), [h], rest, kx_mk (show (0 : Int) ≤ 0 ∧ (0 : Int) ≤ 5 by omega) (by rw [k0]; rfl) ⟨fun _ => rfl, fun e => (by cases e), fun e => (by cases e), fun e => (by cases e), fun e => (by cases e), fun e => (by cases e)⟩, rfl, rfl⟩, fun _ _ _ _ _ _ _ => by omega⟩
    simp only [g0, Option.bind_some, ek, k0, show (((1 : Nat) : Int) - 1 == 0) = true from rfl, if_true]
    exact Ev.now _
  have z0 : ((h.toNat : Int) - 1 == 0) = false := by rw [beq_eq_false_iff_ne]; omega
  by_cases k1 : h.toNat = 2
  · have z1 : ((h.toNat : Int) - 1 == 1) = true := by rw [k1]; rfl
    match rest, hl, g0, hsz, nogood with
    | [], _, g0, hsz, nogood =>
      refine ⟨v0, -1, Ev.step 2 (fun k => F89_eq k _) ?_, nogood fun v' K R hv _ hK e => ?_⟩
      · simp only [g0, Option.bind_some, ek, z0, z1, Bool.false_eq_true, if_false, if_true, show decide (((ba [h]).size : Int) > 1) = false from rfl]
        exact fail
      · obtain ⟨e1, B, S, _, e2⟩ := kx_kind hv hK e
        rw [S.s1 (by rw [e1, k1]; rfl)] at e2
        cases e2
    | y :: R, _, g0, hsz, nogood =>
      have g1 : (ba (h :: y :: R))[1]? = some y := by rw [ba_get]; rfl
      have c1 : decide (((ba (h :: y :: R)).size : Int) > 1) = true := decide_eq_true (by rw [hsz, List.length_cons]; omega)
      by_cases hy : y.toNat < 2
      · have ey : ((y.toNat : Int) == 1) = decide (y = 1) := by
          by_cases e : y = 1
          · subst e; rfl
          · rw [decide_eq_false e, beq_eq_false_iff_ne]
            intro h
            have h1 : y.toNat = 1 := by omega
            exact e (UInt8.toNat_inj.1 h1)
        have hbit : u8 (bit (decide (y = 1))) = y := by
          by_cases e : y = 1
          · subst e; rfl
          · rw [decide_eq_false e]
            have h0 : y.toNat ≠ 1 := fun h => e (UInt8.toNat_inj.1 h)
            have h1 : y.toNat = 0 := by omega
            have : y = 0 := UInt8.toNat_inj.1 h1
            rw [this]; rfl
        refine ⟨(1, decide (y = 1), false, [], 0, 0, 0, 0, ByteArray.empty, ()), 2, Ev.step 2 (fun k => F89_eq k _) ?_, .inl (by omega), fun _ => ⟨?_, fun e => (by cases e), [h, y], R, ?_, rfl, rfl⟩, fun _ _ _ _ _ _ _ => by omega⟩
        · simp only [g0, Option.bind_some, ek, z0, z1, Bool.false_eq_true, if_false, if_true, c1, g1, decide_eq_true (show (y.toNat : Int) < 2 by omega), ey]
          exact Ev.now _
        · exact vOk_mk (by omega) (fun e => absurd rfl e) (fun _ => ⟨rfl, rfl, rfl⟩) (fun _ => rfl) (fun _ => ⟨rfl, rfl⟩) (fun _ => rfl) (fun e => (by cases e)) (fun e => (by cases e)) (fun e => (by cases e)) (fun e => (by cases e))
        · exact kx_mk (show (0 : Int) ≤ 1 ∧ (1 : Int) ≤ 5 by omega) (by rw [k1]; rfl) ⟨fun e => (by cases e), fun _ => by show [y] = [u8 (bit (decide (y = 1)))]; rw [hbit], fun e => (by cases e), fun e => (by cases e), fun e => (by cases e), fun e => (by cases e)⟩
      · refine ⟨v0, -1, Ev.step 2 (fun k => F89_eq k _) ?_, nogood fun v' K R' hv _ hK e => ?_⟩
        · simp only [g0, Option.bind_some, ek, z0, z1, Bool.false_eq_true, if_false, if_true, c1, g1, decide_eq_false (show ¬ (y.toNat : Int) < 2 by omega)]
          exact fail
        · obtain ⟨e1, B, S, _, e2⟩ := kx_kind hv hK e
          rw [S.s1 (by rw [e1, k1]; rfl)] at e2
          have := (List.cons.inj e2).1
          rw [this] at hy
          refine hy ?_
          cases v'.2.1 <;> decide
  have z1 : ((h.toNat : Int) - 1 == 1) = false := by rw [beq_eq_false_iff_ne]; omega
  by_cases k2 : h.toNat = 3
  · have z2 : ((h.toNat : Int) - 1 == 2) = true := by rw [k2]; rfl
    obtain ⟨d, n, e1, p1, p2⟩ := numGet_ev (h := h) hl
    by_cases hn : n > 0
    · obtain ⟨z, t, B, R, q1, q2, q3, rfl, q5, q6, q7⟩ := p1 hn
      refine ⟨(2, false, decide (z < 0), digs z.natAbs, (t : Int), 0, 0, 0, ByteArray.empty, ()), n, Ev.step 2 (fun k => F89_eq k _) ?_, .inl hn, fun _ => ⟨?_, fun _ => ⟨z, t, rfl, rfl, rfl, q1, q2, q3⟩, h :: B, R, ?_, by rw [q6]; rfl, by rw [q7, List.length_cons]; omega⟩, fun _ _ _ _ _ _ _ => hn⟩
      · simp only [g0, Option.bind_some, ek, z0, z1, z2, Bool.false_eq_true, if_false, if_true]
        refine Ev.bind e1 ?_
        simp only [decide_eq_true hn, if_true]
        exact Ev.bind (Ev.step 2 (fun k => F111_eq k _ _ _) (Ev.now _)) (Ev.now _)
      · exact vOk_mk (by omega) (fun _ => rfl) (fun e => absurd rfl e) (fun _ => rfl) (fun _ => ⟨rfl, rfl⟩) (fun _ => rfl) (fun _ => decOk_D q2 q1) (fun e => (by cases e)) (fun e => (by cases e)) (fun e => (by cases e))
      · exact kx_mk (show (0 : Int) ≤ 2 ∧ (2 : Int) ≤ 5 by omega) (by rw [k2]; rfl) ⟨fun e => (by cases e), fun e => (by cases e), fun _ => ⟨z, t, rfl, rfl, rfl, q1, q5⟩, fun e => (by cases e), fun e => (by cases e), fun e => (by cases e)⟩
    · refine ⟨v0, -1, Ev.step 2 (fun k => F89_eq k _) ?_, nogood fun v' K R hv hc hK e => ?_⟩
      · simp only [g0, Option.bind_some, ek, z0, z1, z2, Bool.false_eq_true, if_false, if_true]
        refine Ev.bind e1 ?_
        simp only [decide_eq_false hn, Bool.false_eq_true, if_false]
        exact fail
      · obtain ⟨e3, B, S, _, e2⟩ := kx_kind hv hK e
        have e3 : v'.1 = 2 := by rw [e3, k2]; rfl
        obtain ⟨z, t, c1, c2, c3, c4, c5, c6⟩ := hc e3
        obtain ⟨z', t', c1', c2', c3', c4', cX⟩ := S.s2 e3
        have ez : z'.natAbs = z.natAbs := digs_inj' (by rw [← c2, ← c2'])
        have es : t' = t := by
          have : (t' : Int) = (t : Int) := by rw [← c3, ← c3']
          omega
        have esg : decide (z' < 0) = decide (z < 0) := by rw [← c1, ← c1']
        have ezz : z' = z := by
          have := decide_eq_decide.1 esg
          omega
        subst ezz es
        exact hn (p2 z' t' B R c4 c5 c6 cX e2)
  have z2 : ((h.toNat : Int) - 1 == 2) = false := by rw [beq_eq_false_iff_ne]; omega
  by_cases k3' : h.toNat = 4
  · have z3 : ((h.toNat : Int) - 1 == 3) = true := by rw [k3']; rfl
    match rest, hl, g0, hsz, nogood with
    | [], _, g0, hsz, nogood | [_], _, g0, hsz, nogood | [_, _], _, g0, hsz, nogood =>
      refine ⟨v0, -1, Ev.step 2 (fun k => F89_eq k _) ?_, nogood fun v' K R hv _ hK e => ?_⟩
      · simp only [g0, Option.bind_some, ek, z0, z1, z2, z3, Bool.false_eq_true, if_false, if_true, show decide (((ba [h]).size : Int) > 3) = false from rfl, small3a, small3b]
        exact fail
      · obtain ⟨e1, B, S, _, e2⟩ := kx_kind hv hK e
        rw [S.s3 (by rw [e1, k3']; rfl)] at e2
        cases e2
    | x :: y :: z :: R, hl, g0, hsz, nogood =>
      have c1 : decide (((ba (h :: x :: y :: z :: R)).size : Int) > 3) = true := decide_eq_true (by rw [hsz]; simp only [List.length_cons]; omega)
      have hn : Ev (fun k => F132 k (ba (h :: x :: y :: z :: R)) 1) (((n3 x y z : Int), ()), ((), (), ())) := num3_ev (L := h :: x :: y :: z :: R) (i := 1) (by simp only [List.length_cons]; omega) (by simp only [List.length_cons] at hl ⊢; omega)
      cases hd : dayOk (n3 x y z : Int) with
      | true =>
        have hi := l3Is_ev (n3 x y z : Int)
        rw [hd] at hi
        refine ⟨(3, false, false, [], 0, (n3 x y z : Int), 0, 0, ByteArray.empty, ()), 4, Ev.step 2 (fun k => F89_eq k _) ?_, .inl (by omega), fun _ => ⟨?_, fun e => (by cases e), [h, x, y, z], R, ?_, rfl, rfl⟩, fun _ _ _ _ _ _ _ => by omega⟩
        · simp only [g0, Option.bind_some, ek, z0, z1, z2, z3, Bool.false_eq_true, if_false, if_true, c1]
          refine Ev.bind hn (Ev.bind hi ?_)
          simp only [if_true]
          exact Ev.bind hn (Ev.now _)
        · exact vOk_mk (by omega) (fun _ => rfl) (fun _ => ⟨rfl, rfl, rfl⟩) (fun e => absurd rfl e) (fun _ => ⟨rfl, rfl⟩) (fun _ => rfl) (fun e => (by cases e)) (fun _ => hd) (fun e => (by cases e)) (fun e => (by cases e))
        · exact kx_mk (show (0 : Int) ≤ 3 ∧ (3 : Int) ≤ 5 by omega) (by rw [k3']; rfl) ⟨fun e => (by cases e), fun e => (by cases e), fun e => (by cases e), fun _ => (k3_of x y z).symm, fun e => (by cases e), fun e => (by cases e)⟩
      | false =>
        have hi := l3Is_ev (n3 x y z : Int)
        rw [hd] at hi
        refine ⟨v0, -1, Ev.step 2 (fun k => F89_eq k _) ?_, nogood fun v' K R' hv _ hK e => ?_⟩
        · simp only [g0, Option.bind_some, ek, z0, z1, z2, z3, Bool.false_eq_true, if_false, if_true, c1]
          refine Ev.bind hn (Ev.bind hi ?_)
          simp only [Bool.false_eq_true, if_false]
          exact fail
        · obtain ⟨e1, B, S, _, e2⟩ := kx_kind hv hK e
          have e3 : v'.1 = 3 := by rw [e1, k3']; rfl
          have hb := (v_body (show vOk _ _ _ _ _ _ _ _ _ = true from hv)).2.1 e3
          have hr : 1 ≤ v'.2.2.2.2.2.1 ∧ v'.2.2.2.2.2.1 ≤ 3652059 := within_iff'.1 hb
          obtain ⟨a, b, c, q, hq⟩ := k3_back (d := v'.2.2.2.2.2.1) (by omega) (by omega)
          rw [S.s3 e3, q] at e2
          obtain ⟨q1, e2⟩ := List.cons.inj e2
          obtain ⟨q2, e2⟩ := List.cons.inj e2
          obtain ⟨q3, e2⟩ := List.cons.inj e2
          rw [q1, q2, q3, hq] at hd
          rw [hd] at hb
          cases hb
  have z3 : ((h.toNat : Int) - 1 == 3) = false := by rw [beq_eq_false_iff_ne]; omega
  by_cases k4 : h.toNat = 5
  · have z4 : ((h.toNat : Int) - 1 == 4) = true := by rw [k4]; rfl
    by_cases h6 : rest.length < 6
    · refine ⟨v0, -1, Ev.step 2 (fun k => F89_eq k _) ?_, nogood fun v' K R hv _ hK e => ?_⟩
      · simp only [g0, Option.bind_some, ek, z0, z1, z2, z3, z4, Bool.false_eq_true, if_false, if_true, decide_eq_false (show ¬ ((ba (h :: rest)).size : Int) > 6 by omega)]
        exact fail
      · obtain ⟨e1, B, S, _, e2⟩ := kx_kind hv hK e
        rw [S.s4 (by rw [e1, k4]; rfl)] at e2
        rw [e2, List.length_append, List.length_append] at h6
        have a1 : (k3 (v'.2.2.2.2.2.2.1 + 120000)).length = 3 := rfl
        have a2 : (k3 (v'.2.2.2.2.2.2.2.1 + 4000000)).length = 3 := rfl
        omega
    · match rest, hl, g0, hsz, nogood, h6 with
      | x :: y :: z :: x' :: y' :: z' :: R, hl, g0, hsz, nogood, _ =>
        have c1 : decide (((ba (h :: x :: y :: z :: x' :: y' :: z' :: R)).size : Int) > 6) = true := decide_eq_true (by rw [hsz]; simp only [List.length_cons]; omega)
        have hn : Ev (fun k => F132 k (ba (h :: x :: y :: z :: x' :: y' :: z' :: R)) 1) (((n3 x y z : Int), ()), ((), (), ())) := num3_ev (L := h :: x :: y :: z :: x' :: y' :: z' :: R) (i := 1) (by simp only [List.length_cons]; omega) (by simp only [List.length_cons] at hl ⊢; omega)
        have hn2 : Ev (fun k => F132 k (ba (h :: x :: y :: z :: x' :: y' :: z' :: R)) 4) (((n3 x' y' z' : Int), ()), ((), (), ())) := num3_ev (L := h :: x :: y :: z :: x' :: y' :: z' :: R) (i := 4) (by simp only [List.length_cons]; omega) (by simp only [List.length_cons] at hl ⊢; omega)
        have b1 := n3_lt x y z
        have b2 := n3_lt x' y' z'
        have w1 : IntKind.i64.wrap ((n3 x y z : Int) - 120000) = (n3 x y z : Int) - 120000 := wrap64 (by omega) (by omega)
        have w2 : IntKind.i64.wrap ((n3 x' y' z' : Int) - 4000000) = (n3 x' y' z' : Int) - 4000000 := wrap64 (by omega) (by omega)
        have hi := l3SpanOk_ev ((n3 x y z : Int) - 120000) ((n3 x' y' z' : Int) - 4000000)
        cases hd : spanOk ((n3 x y z : Int) - 120000) ((n3 x' y' z' : Int) - 4000000) with
        | true =>
          rw [hd] at hi
          refine ⟨(4, false, false, [], 0, 0, (n3 x y z : Int) - 120000, (n3 x' y' z' : Int) - 4000000, ByteArray.empty, ()), 7, Ev.step 2 (fun k => F89_eq k _) ?_, .inl (by omega), fun _ => ⟨?_, fun e => (by cases e), [h, x, y, z, x', y', z'], R, ?_, rfl, rfl⟩, fun _ _ _ _ _ _ _ => by omega⟩
          · simp only [g0, Option.bind_some, ek, z0, z1, z2, z3, z4, Bool.false_eq_true, if_false, if_true, c1]
            refine Ev.bind hn (Ev.bind hn2 ?_)
            simp only [w1, w2]
            refine Ev.bind hi ?_
            simp only [if_true]
            exact Ev.now _
          · exact vOk_mk (by omega) (fun _ => rfl) (fun _ => ⟨rfl, rfl, rfl⟩) (fun _ => rfl) (fun e => absurd rfl e) (fun _ => rfl) (fun e => (by cases e)) (fun e => (by cases e)) (fun _ => hd) (fun e => (by cases e))
          · refine kx_mk (show (0 : Int) ≤ 4 ∧ (4 : Int) ≤ 5 by omega) (by rw [k4]; rfl) ⟨fun e => (by cases e), fun e => (by cases e), fun e => (by cases e), fun e => (by cases e), fun _ => ?_, fun e => (by cases e)⟩
            show [x, y, z, x', y', z'] = k3 ((n3 x y z : Int) - 120000 + 120000) ++ k3 ((n3 x' y' z' : Int) - 4000000 + 4000000)
            rw [Int.sub_add_cancel, Int.sub_add_cancel, k3_of, k3_of]
            rfl
        | false =>
          rw [hd] at hi
          refine ⟨v0, -1, Ev.step 2 (fun k => F89_eq k _) ?_, nogood fun v' K R' hv _ hK e => ?_⟩
          · simp only [g0, Option.bind_some, ek, z0, z1, z2, z3, z4, Bool.false_eq_true, if_false, if_true, c1]
            refine Ev.bind hn (Ev.bind hn2 ?_)
            simp only [w1, w2]
            refine Ev.bind hi ?_
            simp only [Bool.false_eq_true, if_false]
            exact fail
          · obtain ⟨e1, B, S, _, e2⟩ := kx_kind hv hK e
            have e3 : v'.1 = 4 := by rw [e1, k4]; rfl
            have hb := (v_body (show vOk _ _ _ _ _ _ _ _ _ = true from hv)).2.2.1 e3
            have hb' := hb
            unfold spanOk at hb'
            rw [Bool.and_eq_true] at hb'
            have r1 := within_iff'.1 hb'.1
            have r2 := within_iff'.1 hb'.2
            obtain ⟨a, b, c, q, hq⟩ := k3_back (d := v'.2.2.2.2.2.2.1 + 120000) (by omega) (by omega)
            obtain ⟨a2, b2, c2, q2, hq2⟩ := k3_back (d := v'.2.2.2.2.2.2.2.1 + 4000000) (by omega) (by omega)
            rw [S.s4 e3, q, q2] at e2
            obtain ⟨p1, e2⟩ := List.cons.inj e2
            obtain ⟨p2, e2⟩ := List.cons.inj e2
            obtain ⟨p3, e2⟩ := List.cons.inj e2
            obtain ⟨p4, e2⟩ := List.cons.inj e2
            obtain ⟨p5, e2⟩ := List.cons.inj e2
            obtain ⟨p6, e2⟩ := List.cons.inj e2
            rw [p1, p2, p3, p4, p5, p6, hq, hq2, Int.add_sub_cancel, Int.add_sub_cancel] at hd
            rw [hd] at hb
            cases hb
      | [], _, _, _, _, h6 | [_], _, _, _, _, h6 | [_, _], _, _, _, _, h6 | [_, _, _], _, _, _, _, h6 | [_, _, _, _], _, _, _, _, h6 | [_, _, _, _, _], _, _, _, _, h6 => exact absurd (by simp) h6
  have z4 : ((h.toNat : Int) - 1 == 4) = false := by rw [beq_eq_false_iff_ne]; omega
  by_cases k5 : h.toNat = 6
  · have z5 : ((h.toNat : Int) - 1 == 5) = true := by rw [k5]; rfl
    have he := l5End_ev (L := h :: rest) (by rw [List.length_cons]; omega)
    rw [List.drop_succ_cons, List.drop_zero] at he
    cases hz : fz rest with
    | none =>
      rw [hz] at he
      replace he : Ev (fun k => F133 k (ba (h :: rest)) 1) (((-1 : Int), ()), ((), (), ())) := he
      refine ⟨v0, -1, Ev.step 2 (fun k => F89_eq k _) ?_, nogood fun v' K R hv _ hK e => ?_⟩
      · simp only [g0, Option.bind_some, ek, z0, z1, z2, z3, z4, z5, Bool.false_eq_true, if_false, if_true]
        refine Ev.bind he ?_
        simp only [show decide ((-1 : Int) > 0) = false from rfl, Bool.false_eq_true, if_false]
        exact fail
      · obtain ⟨e1, B, S, _, e2⟩ := kx_kind hv hK e
        obtain ⟨h0, hB⟩ := S.s5 (by rw [e1, k5]; rfl)
        rw [e2, hB, List.append_assoc, List.singleton_append, fz_app _ _ h0] at hz
        cases hz
    | some j =>
      rw [hz] at he
      replace he : Ev (fun k => F133 k (ba (h :: rest)) 1) ((((1 + j : Nat) : Int), ()), ((), (), ())) := he
      obtain ⟨R, h1, h2, h3⟩ := fz_some hz
      have hlw : rest.length = j + (1 + R.length) := by
        conv => lhs; rw [h1]
        rw [List.length_append, h3, List.length_cons]
        omega
      have ex : (ba (h :: rest)).extract 1 ((1 + j : Nat) : Int).toNat = ba (rest.take j) := by
        rw [ba_extract, Int.toNat_natCast, Nat.add_comm, List.take_succ_cons, List.drop_succ_cons, List.drop_zero]
      have c1 : (decide (0 ≤ (1 : Int)) && decide ((1 : Int) ≤ ((1 + j : Nat) : Int)) && decide (((1 + j : Nat) : Int) ≤ ((ba (h :: rest)).size : Int))) = true := by
        rw [hsz]; simp; omega
      have ht := l4Text_ev (t := ba (rest.take j)) (by rw [ba_size, h3]; omega)
      have en : IntKind.i64.wrap (((1 + j : Nat) : Int) + 1) = 2 + (j : Int) := by rw [wrap64 (by omega) (by omega)]; omega
      have cp : decide (((1 + j : Nat) : Int) > 0) = true := decide_eq_true (by omega)
      cases hd : textOk (ba (rest.take j)) with
      | true =>
        rw [hd] at ht
        refine ⟨(5, false, false, [], 0, 0, 0, 0, ba (rest.take j), ()), 2 + (j : Int), Ev.step 2 (fun k => F89_eq k _) ?_, .inl (by omega), fun _ => ⟨?_, fun e => (by cases e), h :: (rest.take j ++ [0]), R, ?_, ?_, ?_⟩, fun _ _ _ _ _ _ _ => by omega⟩
        · simp only [g0, Option.bind_some, ek, z0, z1, z2, z3, z4, z5, Bool.false_eq_true, if_false, if_true]
          refine Ev.bind he ?_
          simp only [cp, if_true, c1, ex]
          refine Ev.bind ht ?_
          simp only [if_true, en]
          exact Ev.now _
        · exact vOk_mk (by omega) (fun _ => rfl) (fun _ => ⟨rfl, rfl, rfl⟩) (fun _ => rfl) (fun _ => ⟨rfl, rfl⟩) (fun e => absurd rfl e) (fun e => (by cases e)) (fun e => (by cases e)) (fun e => (by cases e)) (fun _ => hd)
        · exact kx_mk (show (0 : Int) ≤ 5 ∧ (5 : Int) ≤ 5 by omega) (by rw [k5]; rfl) ⟨fun e => (by cases e), fun e => (by cases e), fun e => (by cases e), fun e => (by cases e), fun e => (by cases e), fun _ => ⟨h2, rfl⟩⟩
        · rw [List.cons_append, List.append_assoc, List.singleton_append, ← h1]
        · rw [List.length_cons, List.length_append, h3, List.length_singleton]; omega
      | false =>
        rw [hd] at ht
        refine ⟨v0, -1, Ev.step 2 (fun k => F89_eq k _) ?_, nogood fun v' K R' hv _ hK e => ?_⟩
        · simp only [g0, Option.bind_some, ek, z0, z1, z2, z3, z4, z5, Bool.false_eq_true, if_false, if_true]
          refine Ev.bind he ?_
          simp only [cp, if_true, c1, ex]
          refine Ev.bind ht ?_
          simp only [Bool.false_eq_true, if_false]
          exact fail
        · obtain ⟨e1, B, S, _, e2⟩ := kx_kind hv hK e
          have e3 : v'.1 = 5 := by rw [e1, k5]; rfl
          obtain ⟨h0, hB⟩ := S.s5 e3
          have hb := (v_body (show vOk _ _ _ _ _ _ _ _ _ = true from hv)).2.2.2 e3
          rw [e2, hB, List.append_assoc, List.singleton_append, fz_app _ _ h0] at hz
          obtain rfl := Option.some.inj hz
          rw [e2, hB, List.append_assoc, List.take_left, of_data, hb] at hd
          cases hd
  · have z5 : ((h.toNat : Int) - 1 == 5) = false := by rw [beq_eq_false_iff_ne]; omega
    refine ⟨v0, -1, Ev.step 2 (fun k => F89_eq k _) ?_, nogood fun v' K R hv _ hK e => ?_⟩
    · simp only [g0, Option.bind_some, ek, z0, z1, z2, z3, z4, z5, Bool.false_eq_true, if_false]
      exact fail
    · obtain ⟨e1, _⟩ := kx_kind hv hK e
      have hk := vOk_kind (show vOk _ _ _ _ _ _ _ _ _ = true from hv)
      omega
end Go.Proofs.YtiojgdjpigcgaaaGreatDoor.R
end

section
/-! Rf: KeyGet, both sides. -/
set_option autoImplicit false
set_option linter.unusedSimpArgs false
set_option linter.unusedVariables false
namespace Go.Proofs.YtiojgdjpigcgaaaGreatDoor.R
open Go.Rf
theorem canon_ex {v : Vl} {K : List UInt8} (hv : vE v = true) (hK : KX v K) : ∃ w, vE w = true ∧ Can w ∧ KX w K := by
  by_cases h2 : v.1 = 2
  · obtain ⟨B, S, rfl⟩ := hK
    obtain ⟨z, u, e1, e2, e3, hu, hX⟩ := S.s2 h2
    rcases hX with ⟨h0, rfl⟩ | ⟨V, r, hV, hl, hr, hA, eB⟩
    · refine ⟨(2, false, false, [], 0, 0, 0, 0, ByteArray.empty, ()), vOk_mk (show (0 : Int) ≤ 2 ∧ (2 : Int) ≤ 5 by omega) (fun _ => rfl) (fun e => absurd rfl e) (fun _ => rfl) (fun _ => ⟨rfl, rfl⟩) (fun _ => rfl) (fun _ => ?_) (fun e => (by cases e)) (fun e => (by cases e)) (fun e => (by cases e)), fun _ => ⟨0, 0, rfl, ?_, rfl, by omega, by decide, .inl rfl⟩, ⟨[128], ⟨fun e => (by cases e), fun e => (by cases e), fun _ => ⟨0, 0, rfl, ?_, rfl, by omega, .inl ⟨by simp, rfl⟩⟩, fun e => (by cases e), fun e => (by cases e), fun e => (by cases e)⟩, by rw [h2]⟩⟩
      · have := decOk_D (z := 0) (s := 0) (by decide) (by omega)
        rw [show (0 : Int).natAbs = 0 from rfl, digs_zero] at this
        exact this
      · rw [show (0 : Int).natAbs = 0 from rfl, digs_zero]
      · rw [show (0 : Int).natAbs = 0 from rfl, digs_zero]
    · obtain ⟨T, j, eT, hne, hd, hw, hm, hlen, _⟩ := trim_dd hV
      obtain ⟨x, hx⟩ : ∃ x, x = z * 10 ^ (12 - u) := ⟨_, rfl⟩
      rw [← hx] at hA eB
      have hVl : V < 10 ^ 30 := by
        have h1 := dv_lt (L := Lib.decDigits V) (fun b hb => dd_range V b hb)
        rw [dv_dd] at h1
        exact Nat.lt_of_lt_of_le h1 (Nat.pow_le_pow_right (by omega) hl)
      have hAV : dv T * 10 ^ (j - r) ≤ V := by
        conv => rhs; rw [hw]
        exact Nat.mul_le_mul_left _ (Nat.pow_le_pow_right (by omega) (by omega))
      have hxA : x.natAbs = dv T * 10 ^ (j - r) * 10 ^ (12 - (r - j)) := by
        rw [hA, hw, Nat.mul_assoc, Nat.mul_assoc, ← Nat.pow_add, ← Nat.pow_add]
        congr 2
        omega
      have hpow : (0 : Int) < 10 ^ (12 - (r - j)) := Int.pow_pos (by omega)
      obtain ⟨y, hy1, hy2⟩ : ∃ y : Int, y.natAbs = dv T * 10 ^ (j - r) ∧ y * 10 ^ (12 - (r - j)) = x := by
        have hc : ((x.natAbs : Nat) : Int) = ((dv T * 10 ^ (j - r) : Nat) : Int) * 10 ^ (12 - (r - j)) := by
          rw [hxA, Int.natCast_mul, Int.natCast_pow]
          rfl
        by_cases hs : x < 0
        · refine ⟨-((dv T * 10 ^ (j - r) : Nat) : Int), by rw [Int.natAbs_neg, Int.natAbs_natCast], ?_⟩
          rw [Int.neg_mul, ← hc]
          omega
        · refine ⟨((dv T * 10 ^ (j - r) : Nat) : Int), Int.natAbs_natCast _, ?_⟩
          rw [← hc]
          omega
      have hy30 : y.natAbs < 10 ^ 30 := by rw [hy1]; omega
      have hcan : r - j = 0 ∨ y % 10 ≠ 0 := by
        by_cases c : r - j = 0
        · exact .inl c
        · right
          rw [show j - r = 0 by omega, Nat.pow_zero, Nat.mul_one] at hy1
          omega
      refine ⟨(2, false, decide (y < 0), digs y.natAbs, ((r - j : Nat) : Int), 0, 0, 0, ByteArray.empty, ()), vOk_mk (show (0 : Int) ≤ 2 ∧ (2 : Int) ≤ 5 by omega) (fun _ => rfl) (fun e => absurd rfl e) (fun _ => rfl) (fun _ => ⟨rfl, rfl⟩) (fun _ => rfl) (fun _ => decOk_D hy30 (by omega)) (fun e => (by cases e)) (fun e => (by cases e)) (fun e => (by cases e)), fun _ => ⟨y, r - j, rfl, rfl, rfl, by omega, hy30, hcan⟩, ⟨B, ⟨fun e => (by cases e), fun e => (by cases e), fun _ => ⟨y, r - j, rfl, rfl, rfl, by omega, ?_⟩, fun e => (by cases e), fun e => (by cases e), fun e => (by cases e)⟩, by rw [h2]⟩⟩
      rw [hy2]
      exact .inr ⟨V, r, hV, hl, hr, hA, eB⟩
  · exact ⟨v, hv, fun e => absurd e h2, hK⟩
theorem kx_uniq {v : Vl} {K L : List UInt8} (hv : vE v = true) (h1 : KX v K) (h2 : KX v L) : K = L := by
  obtain ⟨B1, S1, rfl⟩ := h1
  obtain ⟨B2, S2, rfl⟩ := h2
  have o : vOk v.1 v.2.1 v.2.2.1 v.2.2.2.1 v.2.2.2.2.1 v.2.2.2.2.2.1 v.2.2.2.2.2.2.1 v.2.2.2.2.2.2.2.1 v.2.2.2.2.2.2.2.2.1 = true := hv
  have hc := key_cmp o o S1 S2
  have hs := o_self (v := ⟨v.1, v.2.1, v.2.2.1, v.2.2.2.1, v.2.2.2.2.1, v.2.2.2.2.2.1, v.2.2.2.2.2.2.1, v.2.2.2.2.2.2.2.1, v.2.2.2.2.2.2.2.2.1⟩) o
  exact (less_cmp _ _).2.1.1 (hc.trans hs)
theorem kx_len {v : Vl} {K : List UInt8} (hv : vE v = true) (h : KX v K) : 0 < K.length ∧ K.length ≤ 64 := by
  obtain ⟨B, S, rfl⟩ := h
  have o : vOk v.1 v.2.1 v.2.2.1 v.2.2.2.1 v.2.2.2.2.1 v.2.2.2.2.2.1 v.2.2.2.2.2.2.1 v.2.2.2.2.2.2.2.1 v.2.2.2.2.2.2.2.2.1 = true := hv
  have hk := vOk_kind o
  rw [List.length_cons]
  refine ⟨by omega, ?_⟩
  have hh : v.1 = 0 ∨ v.1 = 1 ∨ v.1 = 2 ∨ v.1 = 3 ∨ v.1 = 4 ∨ v.1 = 5 := by omega
  rcases hh with e | e | e | e | e | e
  · rw [S.s0 e]; simp
  · rw [S.s1 e]; simp
  · obtain ⟨z, u, _, _, _, _, hX⟩ := S.s2 e
    rcases hX with ⟨_, rfl⟩ | ⟨V, r, _, hl, _, _, rfl⟩
    · simp
    · have := trimB_len (Lib.decDigits V)
      cases decide (z * 10 ^ (12 - u) < 0) with
      | true => rw [nk_neg, List.length_cons, flip_len, List.length_cons, dig_len]; omega
      | false => rw [nk_pos, List.length_cons, List.length_cons, dig_len]; omega
  · rw [S.s3 e]; show 3 + 1 ≤ 64; omega
  · rw [S.s4 e, List.length_append]; show 3 + 3 + 1 ≤ 64; omega
  · have := (text_nz ((v_body o).2.2.2 e)).2
    rw [(S.s5 e).2, List.length_append]
    have hs : v.2.2.2.2.2.2.2.2.1.data.toList.length = v.2.2.2.2.2.2.2.2.1.size := by rw [Array.length_toList, ByteArray.size_data]
    rw [hs, List.length_singleton]; omega
theorem cand_sz (h : UInt8) {rest : List UInt8} (hl : rest.length ≤ 63) : szOk (cand h rest) := by
  have hn : ∀ (neg : Bool) (e : Int) (D : List UInt8), Dig D → D.length ≤ 31 → (digs (numFin neg e D).2.1).length ≤ 1000 := by
    intro neg e D hD hDl
    unfold numFin
    split
    · rename_i hw
      have w2 : -12 ≤ e ∧ e ≤ 30 := within_iff'.1 hw.1
      split
      · rw [digs_zero]; simp
      · show (digs (dv (padD e D))).length ≤ 1000
        omega
    · rw [digs_zero]; simp
  have hI : (digs (numI rest).2.1).length ≤ 1000 := by
    unfold numI
    split
    · split
      · exact hn _ _ _ (lead_dig _ _) (lead_len _ _)
      · split
        · exact hn _ _ _ (lead_dig _ _) (lead_len _ _)
        · rw [digs_zero]; simp
    · rw [digs_zero]; simp
  have he : ByteArray.empty.size ≤ 1048576 := by decide
  unfold cand szOk
  split
  · exact ⟨by simp, he⟩
  split
  · exact ⟨by show (digs (numI rest).2.1).length ≤ 1048576; omega, he⟩
  split
  · exact ⟨by simp, he⟩
  split
  · exact ⟨by simp, he⟩
  split
  · refine ⟨by simp, ?_⟩
    show (ba (upto0 rest)).size ≤ 1048576
    have := upto0_len rest
    rw [ba_size]; omega
  · exact ⟨by simp [v0], he⟩
theorem pre_ev (A P : List UInt8) : Ev (fun k => F44 k (ba A) (ba P)) ((decide (P <+: A), ()), ((), (), ())) := by
  refine Ev.step 2 (fun k => F44_eq k _ _) (Ev.bind (x := ((decide (P <+: A), ()), ((), (), ()))) ?_ (Ev.now _))
  refine Ev.step 2 (fun k => F94_eq k _ _) ?_
  by_cases hl : P.length ≤ A.length
  · have c1 : decide (((ba A).size : Int) ≥ ((ba P).size : Int)) = true := decide_eq_true (by rw [ba_size, ba_size]; omega)
    have c2 : (decide (0 ≤ ((ba P).size : Int)) && decide (((ba P).size : Int) ≤ ((ba A).size : Int))) = true := by rw [ba_size, ba_size]; simp; omega
    have e : (((ba A).extract 0 (((ba P).size : Int).toNat)).toList == (ba P).toList) = decide (P <+: A) := by
      rw [ba_extract, Lib.toList_data, Lib.toList_data, Int.toNat_natCast, ba_size, List.drop_zero]
      show ((A.take P.length) == P) = _
      by_cases h : P <+: A
      · rw [decide_eq_true h, beq_iff_eq]
        exact (List.prefix_iff_eq_take.1 h).symm
      · rw [decide_eq_false h, beq_eq_false_iff_ne]
        intro h'
        exact h (List.prefix_iff_eq_take.2 h'.symm)
    simp only [c1, c2, if_true, e]
    exact Ev.now _
  · have c1 : decide (((ba A).size : Int) ≥ ((ba P).size : Int)) = false := decide_eq_false (by rw [ba_size, ba_size]; omega)
    have e : decide (P <+: A) = false := decide_eq_false fun h => hl h.length_le
    simp only [c1, Bool.false_eq_true, if_false, e]
    exact Ev.now _
/-- the key of what was taken, if it is one -/
theorem put_ev {c : Vl} (hs : szOk c) (down : Bool) : (vE c = true ∧ ∃ K, KX c K ∧ Ev (fun k => F13 k c.1 c.2.1 c.2.2.1 c.2.2.2.1 c.2.2.2.2.1 c.2.2.2.2.2.1 c.2.2.2.2.2.2.1 c.2.2.2.2.2.2.2.1 c.2.2.2.2.2.2.2.2.1 down) ((ba (if down = true then flip K else K), ()), (((), (), (), (), (), (), (), (), (), ()), (), ()))) ∨
    (vE c = false ∧ Ev (fun k => F13 k c.1 c.2.1 c.2.2.1 c.2.2.2.1 c.2.2.2.2.1 c.2.2.2.2.2.1 c.2.2.2.2.2.2.1 c.2.2.2.2.2.2.2.1 c.2.2.2.2.2.2.2.2.1 down) ((⟨#[]⟩, ()), (((), (), (), (), (), (), (), (), (), ()), (), ()))) := by
  have v1 := ValueOk_ev c.1 c.2.1 c.2.2.1 c.2.2.2.1 c.2.2.2.2.1 c.2.2.2.2.2.1 c.2.2.2.2.2.2.1 c.2.2.2.2.2.2.2.1 c.2.2.2.2.2.2.2.2.1 hs.1 hs.2
  cases h : vE c with
  | true =>
    left
    have h' : vOk c.1 c.2.1 c.2.2.1 c.2.2.2.1 c.2.2.2.2.1 c.2.2.2.2.2.1 c.2.2.2.2.2.2.1 c.2.2.2.2.2.2.2.1 c.2.2.2.2.2.2.2.2.1 = true := h
    rw [h'] at v1
    obtain ⟨B, hS, h1⟩ := key_exact h'
    refine ⟨rfl, _, ⟨B, hS, rfl⟩, Ev.step 2 (fun k => F13_eq k _ _ _ _ _ _ _ _ _ _) (Ev.bind v1 ?_)⟩
    simp only [Bool.not_true, Bool.false_eq_true, if_false]
    refine Ev.bind (h1 down) ?_
    simp only [bytes_ints]
    exact Ev.now _
  | false =>
    right
    have h' : vOk c.1 c.2.1 c.2.2.1 c.2.2.2.1 c.2.2.2.2.1 c.2.2.2.2.2.1 c.2.2.2.2.2.2.1 c.2.2.2.2.2.2.2.1 c.2.2.2.2.2.2.2.2.1 = false := h
    rw [h'] at v1
    refine ⟨rfl, Ev.step 2 (fun k => F13_eq k _ _ _ _ _ _ _ _ _ _) (Ev.bind v1 ?_)⟩
    simp only [Bool.not_false, if_true]
    exact Ev.now _
theorem flip_take (K : List UInt8) (n : Nat) : flip (K.take n) = (flip K).take n := by unfold flip; rw [List.map_take]
theorem flip_pre' {a b : List UInt8} : flip a <+: flip b ↔ a <+: b :=
  ⟨flip_pre, fun h => by obtain ⟨t, rfl⟩ := h; exact ⟨flip t, (flip_app a t).symm⟩⟩
/-- both sides answer alike -/
theorem KeyGet_both (U : List UInt8) (down : Bool) (hU : U.length ≤ 1048576) : ∃ (v : Vl) (n : Int) (ok : Bool), szOk v ∧ Ev (fun k => F15 k (ba U) down) ((v, n, ok, ()), ((), (), ())) ∧ Ev (fun k => F14 k (ba U) down) ((v, n, ok, ()), ((), (), ())) := by
  obtain ⟨u, hu⟩ : ∃ u, u = if down = true then flip U else U := ⟨_, rfl⟩
  have hul : u.length = U.length := by rw [hu]; split; exact flip_len U; rfl
  have hUu : U = if down = true then flip u else u := by
    rw [hu]
    cases down with
    | true => simp only [if_true]; rw [flip_flip]
    | false => simp
  -- the program's side
  have em : (if (64 : Int) < ((ba U).size : Int) then (64 : Int) else ((ba U).size : Int)) = ((min 64 U.length : Nat) : Int) := by rw [ba_size]; split <;> omega
  have c1 : (decide (0 ≤ ((min 64 U.length : Nat) : Int)) && decide (((min 64 U.length : Nat) : Int) ≤ ((ba U).size : Int))) = true := by rw [ba_size]; simp; omega
  have ext : ((ba U).extract 0 ((min 64 U.length : Nat) : Int).toNat).data.toList = U.take 64 := by
    rw [ba_extract, ba_data, Int.toNat_natCast, List.drop_zero]
    by_cases h : U.length ≤ 64
    · rw [Nat.min_eq_right h, List.take_length, List.take_of_length_le h]
    · rw [Nat.min_eq_left (by omega)]
  have hv64 : u.take 64 = if down = true then flip (U.take 64) else U.take 64 := by
    rw [hu]
    cases down with
    | true => simp only [if_true]; rw [flip_take]
    | false => simp
  have im : ∀ {r}, Ev (fun k => F15c4 k (ba U) down 0 false false [] 0 0 0 0 ByteArray.empty (ints (u.take 64))) r → Ev (fun k => F15 k (ba U) down) r := by
    intro r hr
    refine Ev.step 2 (fun k => F15_eq k _ _) ?_
    rw [hv64] at hr
    simp only [em, c1, if_true, ext]
    cases down with
    | true =>
      simp only [if_true] at hr ⊢
      refine Ev.bind (turned_ev (U.take 64) (by rw [List.length_take]; omega)) ?_
      exact hr
    | false =>
      simp only [Bool.false_eq_true, if_false] at hr ⊢
      exact hr
  have sp : ∀ {w : Vl} {n : Int}, U ≠ [] → Ev (fun k => F89 k (ba u)) ((w, n, ()), ((), ())) → Ev (fun k => F38 k (ba U) down) ((w, n, ()), ((), (), ())) := by
    intro w n hne hr
    have c0 : (((ba U).size : Int) == 0) = false := by
      have := List.length_pos_iff.2 hne
      rw [ba_size, beq_eq_false_iff_ne]; omega
    have h5 : Ev (fun k => F38c5 k (ba u) 0 false false [] 0 0 0 0 ByteArray.empty) ((w, n, ()), ((), (), ())) := Ev.step 1 (fun k => F38c5_eq k _ _ _ _ _ _ _ _ _ _) (Ev.bind hr (Ev.now _))
    refine Ev.step 2 (fun k => F38_eq k _ _) ?_
    rw [hu] at h5
    cases down with
    | true =>
      simp only [if_true] at h5
      simp only [c0, Bool.false_eq_true, if_false, if_true]
      exact Ev.bind (l5Turn_ev U (by omega)) h5
    | false =>
      simp only [Bool.false_eq_true, if_false] at h5
      simp only [c0, Bool.false_eq_true, if_false]
      exact h5
  cases hcase : u with
  | nil =>
    have hU0 : U = [] := List.eq_nil_of_length_eq_zero (by rw [← hul, hcase]; rfl)
    refine ⟨v0, 0, false, ⟨by simp [v0], by decide⟩, im ?_, Ev.step 2 (fun k => F14_eq k _ _) (Ev.bind (x := ((v0, -1, ()), ((), (), ()))) ?_ ?_)⟩
    · rw [hcase]
      exact Ev.step 1 (fun k => F15c4_eq k _ _ _ _ _ _ _ _ _ _ _ _) (Ev.now _)
    · rw [hU0]
      exact Ev.step 2 (fun k => F38_eq k _ _) (Ev.now _)
    · simp only [show decide ((-1 : Int) < 0) = true from rfl, if_true]
      exact Ev.now _
  | cons h rest =>
    have hne : U ≠ [] := by intro e; rw [e] at hul; rw [hcase] at hul; cases hul
    have hrl : rest.length ≤ 1048576 := by
      have : u.length = rest.length + 1 := by rw [hcase]; rfl
      omega
    obtain ⟨w, n, b1, b2, b3, b4⟩ := body2_ev (h := h) (rest := rest) (by omega)
    have s1 := sp hne (by rw [hcase]; exact b1)
    have e64 : u.take 64 = h :: rest.take 63 := by rw [hcase]; rfl
    have hl63 : (rest.take 63).length ≤ 63 := by rw [List.length_take]; omega
    have hhl := UInt8.toNat_lt h
    -- what has a valid key ahead
    have main : ∀ {x : Vl} {K R : List UInt8}, vE x = true → Can x → KX x K → h :: rest = K ++ R → cand h (rest.take 63) = x := by
      intro x K R hv hc hK e
      have hlen := kx_len hv hK
      refine cand_of hv hc hK (R := R.take (64 - K.length)) ?_
      have : (h :: rest).take 64 = (K ++ R).take 64 := by rw [e]
      rw [List.take_append, List.take_of_length_le hlen.2] at this
      exact this
    have ans_sp : Ev (fun k => F14 k (ba U) down) ((if n > 0 then w else v0, if n > 0 then n else 0, decide (n > 0), ()), ((), (), ())) := by
      refine Ev.step 2 (fun k => F14_eq k _ _) (Ev.bind s1 ?_)
      by_cases hn : n > 0
      · simp only [decide_eq_false (show ¬ n < 0 by omega), Bool.false_eq_true, if_false, if_pos hn, decide_eq_true hn]
        exact Ev.now _
      · have : n = -1 := b2.resolve_left hn
        simp only [decide_eq_true (show n < 0 by omega), if_true, if_neg hn, decide_eq_false hn]
        exact Ev.now _
    have none_im : (1 ≤ h.toNat ∧ h.toNat ≤ 6 → ¬ ∃ (x : Vl) (K R : List UInt8), vE x = true ∧ KX x K ∧ h :: rest = K ++ R) → Ev (fun k => F15 k (ba U) down) ((v0, 0, false, ()), ((), (), ())) := by
      intro hno
      refine im ?_
      rw [e64]
      by_cases hin : 1 ≤ h.toNat ∧ h.toNat ≤ 6
      · have hno := hno hin
        refine decG_ev hl63 hin.1 hin.2 (Ev.step 1 (fun k => F15c18_eq k _ _ _ _ _ _ _ _ _ _ _ _ _ _ _ _ _ _ _ _) ?_)
        rcases put_ev (cand_sz h hl63) down with ⟨hv, K, hK, hp⟩ | ⟨hv, hp⟩
        · have hlen := kx_len hv hK
          refine Ev.bind hp ?_
          have c2 : ((ba (if down = true then flip K else K)).toList == (⟨#[]⟩ : ByteArray).toList) = false := by
            rw [Lib.toList_data, Lib.toList_data, beq_eq_false_iff_ne]
            intro e
            have e : (if down = true then flip K else K) = [] := e
            have : (if down = true then flip K else K).length = K.length := by split; exact flip_len K; rfl
            rw [e] at this
            simp at this
            omega
          have hpre : decide ((if down = true then flip K else K) <+: U) = false := by
            refine decide_eq_false fun hh => ?_
            rw [hUu] at hh
            have hku : K <+: u := by
              cases down with
              | true => simp only [if_true] at hh; exact flip_pre'.1 hh
              | false => simp only [Bool.false_eq_true, if_false] at hh; exact hh
            obtain ⟨R, hR⟩ := hku
            exact hno ⟨_, K, R, hv, hK, by rw [hR, hcase]⟩
          have hp2 := pre_ev U (if down = true then flip K else K)
          rw [hpre] at hp2
          simp only [c2, Bool.false_eq_true, if_false]
          refine Ev.bind hp2 ?_
          simp only [Bool.not_false, if_true]
          exact Ev.now _
        · refine Ev.bind hp ?_
          have c2 : ((⟨#[]⟩ : ByteArray).toList == (⟨#[]⟩ : ByteArray).toList) = true := by rw [beq_iff_eq]
          simp only [c2, if_true]
          exact Ev.now _
      · refine Ev.step 1 (fun k => F15c4_eq k _ _ _ _ _ _ _ _ _ _ _ _) ?_
        have c0 : (((ints (h :: rest.take 63)).length : Int) == 0) = false := by rw [ints_len, beq_eq_false_iff_ne]; simp; omega
        have g0 : (ints (h :: rest.take 63))[0]? = some (h.toNat : Int) := rfl
        have ek : IntKind.i64.wrap (IntKind.i64.wrap (h.toNat : Int) - 1) = (h.toNat : Int) - 1 := by
          rw [wrap64 (show -9223372036854775808 ≤ (h.toNat : Int) by omega) (by omega), wrap64 (by omega) (by omega)]
        have hout : within ((h.toNat : Int) - 1) 0 5 = false := by
          cases hw : within ((h.toNat : Int) - 1) 0 5 with
          | false => rfl
          | true => have := within_iff'.1 hw; omega
        simp only [c0, Bool.false_eq_true, if_false, g0, Option.bind_some, ek]
        refine Ev.bind (in_ev _ _ _) ?_
        simp only [hout, Bool.not_false, if_true]
        exact Ev.now _
    by_cases P : ∃ (x : Vl) (K R : List UInt8), vE x = true ∧ KX x K ∧ h :: rest = K ++ R
    · obtain ⟨x0, K, R, hx0, hK0, e⟩ := P
      obtain ⟨x, hx, hcx, hK⟩ := canon_ex hx0 hK0
      have hc := main hx hcx hK e
      have hn : n > 0 := b4 x K R hx hcx hK e
      obtain ⟨hw, hcw, K', R', hK', e', hn'⟩ := b3 hn
      have hc' := main hw hcw hK' e'
      have hwx : w = x := hc'.symm.trans hc
      subst hwx
      obtain rfl := kx_uniq hw hK hK'
      have hlen := kx_len hw hK
      have hin := (kx_kind hw hK e).1
      have hk := vOk_kind (show vOk _ _ _ _ _ _ _ _ _ = true from hw)
      have hsz : szOk w := by rw [← hc]; exact cand_sz h hl63
      refine ⟨w, n, true, hsz, im ?_, ?_⟩
      · rw [e64]
        refine decG_ev hl63 (by omega) (by omega) (Ev.step 1 (fun k => F15c18_eq k _ _ _ _ _ _ _ _ _ _ _ _ _ _ _ _ _ _ _ _) ?_)
        rw [hc]
        rcases put_ev hsz down with ⟨_, K2, hK2, hp⟩ | ⟨hv, hp⟩
        · obtain rfl := kx_uniq hw hK hK2
          refine Ev.bind hp ?_
          have hfl : (if down = true then flip K else K).length = K.length := by split; exact flip_len K; rfl
          have c2 : ((ba (if down = true then flip K else K)).toList == (⟨#[]⟩ : ByteArray).toList) = false := by
            rw [Lib.toList_data, Lib.toList_data, beq_eq_false_iff_ne]
            intro e
            have e : (if down = true then flip K else K) = [] := e
            rw [e] at hfl
            simp at hfl
            omega
          have hpre : decide ((if down = true then flip K else K) <+: U) = true := by
            refine decide_eq_true ?_
            have hku : K <+: u := ⟨R, by rw [hcase, e]⟩
            rw [hUu]
            cases down with
            | true => simp only [if_true]; exact flip_pre'.2 hku
            | false => simp only [Bool.false_eq_true, if_false]; exact hku
          have hp2 := pre_ev U (if down = true then flip K else K)
          rw [hpre] at hp2
          simp only [c2, Bool.false_eq_true, if_false]
          refine Ev.bind hp2 ?_
          simp only [Bool.not_true, Bool.false_eq_true, if_false]
          have hsz2 : (((ba (if down = true then flip K else K)).size : Nat) : Int) = n := by rw [ba_size, hfl, hn']
          rw [hsz2]
          exact Ev.now _
        · rw [hv] at hw; cases hw
      · rw [if_pos hn, if_pos hn, decide_eq_true hn] at ans_sp
        exact ans_sp
    · have hn : ¬ n > 0 := fun hn => by
        obtain ⟨hw, _, K, R, hK, e, _⟩ := b3 hn
        exact P ⟨w, K, R, hw, hK, e⟩
      refine ⟨v0, 0, false, ⟨by simp [v0], by decide⟩, none_im fun _ => P, ?_⟩
      rw [if_neg hn, if_neg hn, decide_eq_false hn] at ans_sp
      exact ans_sp
end Go.Proofs.YtiojgdjpigcgaaaGreatDoor.R
end

section
/-! Rf: the law FnExactKeyGet, with no machine in sight. -/
set_option autoImplicit false
set_option linter.unusedSimpArgs false
set_option linter.unusedVariables false
namespace Go.Proofs.YtiojgdjpigcgaaaGreatDoor.R
open Go.Rf
theorem FnExactKeyGet : PureFnExactKeyGet := by
  intro s down ws _
  have fin : Ev (fun k => F4 k s down) ((true, ()), ((), (), ())) := by
    refine Ev.step 2 (fun k => F4_eq k _ _) ?_
    by_cases hs : s.size > 1048576
    · simp only [decide_eq_true (show (s.size : Int) > 1048576 by omega), if_true]
      exact Ev.now _
    simp only [decide_eq_false (show ¬ (s.size : Int) > 1048576 by omega), Bool.false_eq_true, if_false]
    have hl : s.data.toList.length ≤ 1048576 := by
      have : s.data.toList.length = s.size := by rw [Array.length_toList, ByteArray.size_data]
      omega
    obtain ⟨v, n, ok, hv, im, sp⟩ := KeyGet_both s.data.toList down hl
    rw [of_data] at im sp
    obtain ⟨k0, y, ng, l, sc, day, mo, da, t, u⟩ := v
    have hl2 : l.length ≤ 1048576 := hv.1
    have ev := eqValue_ev k0 y ng l sc day mo da t hl2
    have mk : Ev (fun k => F17 k k0 y ng l sc day mo da t 1) ((1 + (l.length : Int), ()), (((), (), (), marks 1 l, (), (), (), (), (), ()), (), ())) := Ev.step 2 (fun k => F17_eq k _ _ _ _ _ _ _ _ _ _) (Ev.bind (markDec_ev ng l sc 1 hl2 (by omega) (by omega)) (Ev.now _))
    have hd : Ev (fun k => F18 k k0 y ng (marks 1 l) sc day mo da t 1) ((1 + (l.length : Int), ()), (((), (), (), (), (), (), (), (), (), ()), (), ())) := by
      refine Ev.step 2 (fun k => F18_eq k _ _ _ _ _ _ _ _ _ _) (Ev.bind (heldDec_ev ng l sc 1 hl2 (by omega) (by omega)) ?_)
      simp only [decide_eq_false (show ¬ 1 + (l.length : Int) < 0 by omega), Bool.false_eq_true, if_false]
      exact Ev.now _
    refine Ev.bind sp (Ev.bind im (Ev.bind ev ?_))
    simp only [Bool.not_true, Bool.false_eq_true, if_false, bne_self_eq_false, beq_self_eq_true]
    refine Ev.bind mk (Ev.bind hd ?_)
    simp only [decide_eq_false (show ¬ 1 + (l.length : Int) < 0 by omega), Bool.false_eq_true, if_false, bne_self_eq_false]
    refine Ev.bind im (Ev.bind ev ?_)
    simp only [Bool.not_true, Bool.false_eq_true, if_false, bne_self_eq_false, beq_self_eq_true]
    refine Ev.bind hd ?_
    simp only [decide_eq_false (show ¬ 1 + (l.length : Int) < 0 by omega), Bool.false_eq_true, if_false, bne_self_eq_false]
    exact Ev.now _
  obtain ⟨k, hk⟩ := Ev.get fin
  exact ⟨k, _, hk⟩
end Go.Proofs.YtiojgdjpigcgaaaGreatDoor.R
end

section
/-- The row, under a short name, for the claim. -/
theorem Go.Proofs.YtiojgdjpigcgaaaGreatDoor.fnExactKeyGet_holds : Go.Proofs.YtiojgdjpigcgaaaGreatDoor.Rows.FnExactKeyGetCardSaid := Go.Proofs.YtiojgdjpigcgaaaGreatDoor.fnExactKeyGet.card Go.Proofs.YtiojgdjpigcgaaaGreatDoor.R.FnExactKeyGet
end
