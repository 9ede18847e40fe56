/- A part of the proof that the law FnExactTreeList answers true for every input: contracts of functions that it reaches, or its plain law. -/
import Derived.RangeFuncIn
import Derived.RangeFuncRecord
import Derived.RangeFuncLeaves
import Derived.RangeFuncNested
import Derived.Laws.StructEq
import Derived.Deep.Slices
import Derived.ChangeArms
import Derived.WideShapes
import Derived.Carry
import Derived.Test.YtcolgghllacloaaCFnExactTreeListx0
import Derived.Test.YtcolgghllacloaaCFnExactTreeListx1
section
/-! Rf: frames that are laid anew. -/
set_option autoImplicit false
namespace Go.Rf
open Go.RowKit

theorem Sc.same_eq : ∀ {a b : Sc}, a.same b = true → a = b
  | .v t, .v t', h => by simp only [Sc.same, decide_eq_true_eq] at h; rw [h]
  | .o e id k, .o e' id' k', h => by
    simp only [Sc.same, Bool.and_eq_true, decide_eq_true_eq, beq_iff_eq] at h
    rw [h.1.1, beq_eq h.1.2, h.2]
  | .v _, .o .., h => by cases h
  | .o .., .v _, h => by cases h
theorem scsSame_eq : ∀ {a b : List Sc}, scsSame a b = true → a = b
  | [], [], _ => rfl
  | a :: l, b :: m, h => by
    simp only [scsSame, Bool.and_eq_true] at h
    rw [Sc.same_eq h.1, scsSame_eq h.2]
  | [], _ :: _, h => by cases h
  | _ :: _, [], h => by cases h
theorem Sh.same_eq : ∀ {a b : Sh}, a.same b = true → a = b
  | .c s, .c s', h => by rw [Sc.same_eq (show s.same s' = true from h)]
  | .agg l, .agg m, h => by rw [scsSame_eq (show scsSame l m = true from h)]
  | .box l, .box m, h => by rw [scsSame_eq (show scsSame l m = true from h)]
  | .clo f l, .clo g m, h => by
    simp only [Sh.same, Bool.and_eq_true] at h
    rw [beq_eq h.1, scsSame_eq h.2]
  | .c _, .agg _, h => by cases h
  | .c _, .box _, h => by cases h
  | .c _, .clo _ _, h => by cases h
  | .agg _, .c _, h => by cases h
  | .agg _, .box _, h => by cases h
  | .agg _, .clo _ _, h => by cases h
  | .box _, .c _, h => by cases h
  | .box _, .agg _, h => by cases h
  | .box _, .clo _ _, h => by cases h
  | .clo _ _, .c _, h => by cases h
  | .clo _ _, .agg _, h => by cases h
  | .clo _ _, .box _, h => by cases h

section
variable {cx : Cx} {w0 w w' : World} {Z0 Z Z' : Nat → Prop} {own : Nat → Prop} {H : (Nat → Option Value) → Prop} {s : St} {a : Act} {κ κ' κ'' : Nat → Option Value} {tb : Tb}
theorem mkCs_homeC : ∀ {ss : List Sc} {key : Nat} {x : Dats ss} {us : List Value}, All2 (crep w Z κ) (mkCs key ss x).1 us → HomeC κ key ss us ∧ HomeB κ key ss us
  | [], _, _, [], _ => ⟨trivial, trivial⟩
  | .v _ :: ss, key, x, u :: us, h => mkCs_homeC (ss := ss) (key := key + 1) (x := x.2) (us := us) h.2
  | .o _ _ true :: ss, key, x, u :: us, h => by
    have := mkCs_homeC (ss := ss) (key := key + 1) (x := x.2) (us := us) h.2
    exact ⟨⟨h.1.1, this.1⟩, h.1.1, this.2⟩
  | .o _ _ false :: ss, key, x, u :: us, h => by
    have := mkCs_homeC (ss := ss) (key := key + 1) (x := x.2) (us := us) h.2
    exact ⟨this.1, h.1.1, this.2⟩
  | [], _, _, _ :: _, h => h.elim
  | .v _ :: _, _, _, [], h => h.elim
  | .o _ _ true :: _, _, _, [], h => h.elim
  | .o _ _ false :: _, _, _, [], h => h.elim
theorem mkS_home {rows : List (Nat × Row)} {key : Nat} {s : Sh} {x : s.D} {v : Value} (hT : TR w Z κ own (tb.lay rows (mkS key s x).2.2)) (h : avrep w Z κ (mkS key s x).1 v) : HomeS w κ key s v := by
  cases s with
  | c s =>
    have : All2 (crep w Z κ) (mkCs key [s] (x, ())).1 [v] := ⟨h, trivial⟩
    exact (mkCs_homeC this).1
  | agg cs => obtain ⟨us, rfl, h1⟩ := h; exact ⟨us, rfl, (mkCs_homeC h1).1⟩
  | clo f cs => obtain ⟨us, rfl, h1⟩ := h; exact ⟨us, rfl, (mkCs_homeC h1).1⟩
  | box cs =>
    obtain ⟨b, hk, rfl⟩ := h
    obtain ⟨u, hu, b', us, e, rfl, hh, hall⟩ := hT.box key (mkCs (key + 1) cs x).1 (by simp [Tb.lay, mkS, app, look_cons])
    rw [hk] at hu
    simp only [Option.some.injEq, Value.pointer.injEq, Addr.mk.injEq, and_true] at hu
    subst hu
    exact ⟨b, us, e, by rw [add_mk], by rw [add_mk]; exact hk, hh, (mkCs_homeC hall).2⟩

/-! ### what is laid, one behind another -/
/-- a frame whose lists tell of the temporaries g -/
structure Lies (w : World) (Z : Nat → Prop) (own : Nat → Prop) (g : Nat → Value) (st : St) (κ : Nat → Option Value) : Prop where
  tr : TR w Z κ own st.tb
  env : ∀ t v, look st.env t = some v → t < st.n ∧ avrep w Z κ v (g t)
theorem lay1 {g : Nat → Value} {st : St} (h : Lies w Z own g st κ) {t key : Nat} {s : Sh} {x : s.D} {fp : List Nat} (ht : t < st.n) (hs : ShRep w Z s x (g t) fp) (hnd : fp.Nodup) (hfree : Free κ st.tb fp) (hown : ∀ b ∈ fp, ¬ Z b ∧ own b)
    (hn : ∀ k ∈ rkeysS key s, st.tb.new k = true) :
    ∃ κ', Lies w Z own g ⟨(t, (mkS key s x).1) :: st.env, st.tb.lay (mkS key s x).2.1 (mkS key s x).2.2, st.n⟩ κ' ∧ (∀ k v, κ k = some v → κ' k = some v) ∧ HomeS w κ' key s (g t) ∧
      (∀ f, (∀ b ∈ f, b ∉ fp) → Free κ st.tb f → Free κ' (st.tb.lay (mkS key s x).2.1 (mkS key s x).2.2) f) ∧ (∀ k, k ∉ rkeysS key s → st.tb.new k = true → (st.tb.lay (mkS key s x).2.1 (mkS key s x).2.2).new k = true) := by
  obtain ⟨κ', hL, hv⟩ := mkS_laid h.tr hs hnd hfree hown hn
  refine ⟨κ', ⟨hL.tr, ?_⟩, hL.ext.k, mkS_home hL.tr hv, hL.free, hL.new⟩
  intro j v hj
  simp only [look_cons] at hj
  split at hj
  · rename_i e
    subst e
    cases hj
    exact ⟨ht, hv⟩
  · exact ⟨(h.env j v hj).1, (h.env j v hj).2.ext hL.ext⟩
theorem mkF_laid {g : Nat → Value} : ∀ {l : List (Nat × Sh)} {x : Shs (l.map (·.2))} {st : St} {κ : Nat → Option Value} {fp : List Nat}, Lies w Z own g st κ → ShsRep w Z (l.map (·.2)) x (l.map fun p => g p.1) fp → fp.Nodup → Free κ st.tb fp →
    (∀ b ∈ fp, ¬ Z b ∧ own b) → (fkeys l).Nodup → (∀ k ∈ fkeys l, st.tb.new k = true) → (∀ p ∈ l, p.1 < st.n) →
    ∃ κ', Lies w Z own g (mkF l x st) κ' ∧ (∀ k v, κ k = some v → κ' k = some v) ∧ (mkF l x st).n = st.n ∧ ∀ p ∈ l, HomeS w κ' (1000000 + p.1 * 1000) p.2 (g p.1)
  | [], _, st, κ, fp, h, _, _, _, _, _, _, _ => ⟨κ, h, fun _ _ h => h, rfl, fun _ h => by cases h⟩
  | (t, s) :: l, x, st, κ, fp, h, ⟨f1, f2, e, hs1, hs2⟩, hnd, hfree, hown, hkn, hnew, hlt => by
    subst e
    simp only [fkeys, app_eq] at hkn hnew
    rw [List.nodup_append] at hnd hkn
    obtain ⟨κ1, h1, h2, h3, h4, h5⟩ := lay1 h (key := 1000000 + t * 1000) (hlt (t, s) (by simp)) hs1 hnd.1 (free_sub hfree (fun b hb => List.mem_append_left _ hb)) (fun b hb => hown b (List.mem_append_left _ hb)) (fun k hk => hnew k (List.mem_append_left _ hk))
    obtain ⟨κ2, h6, h7, h8, h9⟩ := mkF_laid (l := l) (x := x.2) h1 hs2 hnd.2.1 (h4 f2 (fun b hb hb' => hnd.2.2 b hb' b hb rfl) (free_sub hfree (fun b hb => List.mem_append_right _ hb))) (fun b hb => hown b (List.mem_append_right _ hb)) hkn.2.1
      (fun k hk => h5 k (fun hk' => hkn.2.2 k hk' k hk rfl) (hnew k (List.mem_append_right _ hk))) (fun p hp => hlt p (by simp [hp]))
    refine ⟨κ2, h6, fun k v hk => h7 k v (h2 k v hk), h8, ?_⟩
    intro p hp
    rcases List.mem_cons.1 hp with rfl | hp
    · exact h3.up h7
    · exact h9 p hp
theorem mkP_laid {g : Nat → Value} : ∀ {ts : List Nat} {ps : List Sh} {x : Shs ps} {vs : List Value} {st : St} {κ : Nat → Option Value} {fp : List Nat}, Lies w Z own g st κ → ShsRep w Z ps x vs fp → (∀ (j t : Nat) (v : Value), ts[j]? = some t → vs[j]? = some v → g t = v) → fp.Nodup → Free κ st.tb fp →
    (∀ b ∈ fp, ¬ Z b ∧ own b) → (pkeys ts ps).Nodup → (∀ k ∈ pkeys ts ps, st.tb.new k = true) → ts.length = ps.length → (∀ t ∈ ts, t < st.n) →
    ∃ κ', Lies w Z own g (mkP ts ps x st) κ' ∧ (∀ k v, κ k = some v → κ' k = some v) ∧ (mkP ts ps x st).n = st.n ∧ HomeP w κ' ts ps vs
  | [], [], _, [], st, κ, fp, h, _, _, _, _, _, _, _, _, _ => ⟨κ, h, fun _ _ h => h, rfl, trivial⟩
  | i :: ts, s :: ps, x, v :: vs, st, κ, fp, h, ⟨f1, f2, e, hs1, hs2⟩, hg, hnd, hfree, hown, hkn, hnew, hlen, hlt => by
    subst e
    simp only [pkeys, app_eq] at hkn hnew
    rw [List.nodup_append] at hnd hkn
    have hgi : g i = v := hg 0 i v rfl rfl
    rw [← hgi] at hs1
    obtain ⟨κ1, h1, h2, h3, h4, h5⟩ := lay1 h (t := i) (key := pkey i) (hlt i (by simp)) hs1 hnd.1 (free_sub hfree (fun b hb => List.mem_append_left _ hb)) (fun b hb => hown b (List.mem_append_left _ hb)) (fun k hk => hnew k (List.mem_append_left _ hk))
    obtain ⟨κ2, h6, h7, h8, h9⟩ := mkP_laid (ts := ts) (ps := ps) (x := x.2) h1 hs2 (fun j t u hj hj' => hg (j + 1) t u (by simpa using hj) (by simpa using hj')) hnd.2.1 (h4 f2 (fun b hb hb' => hnd.2.2 b hb' b hb rfl) (free_sub hfree (fun b hb => List.mem_append_right _ hb))) (fun b hb => hown b (List.mem_append_right _ hb)) hkn.2.1
      (fun k hk => h5 k (fun hk' => hkn.2.2 k hk' k hk rfl) (hnew k (List.mem_append_right _ hk))) (by simpa using hlen) (fun t ht => hlt t (by simp [ht]))
    rw [hgi] at h3
    exact ⟨κ2, h6, fun k v hk => h7 k v (h2 k v hk), h8, h3.up h7, h9⟩
  | _, [], _, _ :: _, _, _, _, _, h, _, _, _, _, _, _, _, _ => h.elim
  | _, _ :: _, _, [], _, _, _, _, h, _, _, _, _, _, _, _, _ => h.elim
  | [], _ :: _, _, _, _, _, _, _, _, _, _, _, _, _, _, hlen, _ => by simp at hlen
  | _ :: _, [], _, _, _, _, _, _, _, _, _, _, _, _, _, hlen, _ => by simp at hlen

/-! ### a cut -/
theorem exF_rep (h : Rel cx w0 Z0 own H s a w Z κ) {F : List Nat} : ∀ {l : List (Nat × Sh)} {x : Shs (l.map (·.2))}, exF s l = some x → (∀ k ∈ (keysF s l).2, k ∈ F) →
    ShsRep w (plus Z κ F) (l.map (·.2)) x (l.map fun p => a.tmps.getD p.1 Go.undef) (kb κ (keysF s l).1) ∧ (∀ p ∈ l, p.1 < s.n) ∧ (∀ k, k ∈ (keysF s l).1 ∨ k ∈ (keysF s l).2 → s.tb.live k)
  | [], _, _, _ => ⟨rfl, fun _ h => (by cases h), fun k hk => by simp [keysF] at hk⟩
  | (t, sh) :: l, x, hx, hF => by
    simp only [exF, Option.bind_eq_some_iff, Option.some.injEq] at hx
    obtain ⟨v, hv, y, h1, z, h2, rfl⟩ := hx
    simp only [keysF, hv, app_eq, List.mem_append] at hF ⊢
    obtain ⟨i1, i2, i3⟩ := exF_rep h (l := l) h2 (fun k hk => hF k (.inr hk))
    obtain ⟨ht, hav⟩ := h.env t v hv
    refine ⟨⟨_, _, kb_app' _ _, exS_rep h.tr h1 hav (fun k hk => hF k (.inl hk)), i1⟩, ?_, ?_⟩
    · intro p hp
      rcases List.mem_cons.1 hp with rfl | hp
      · exact ht
      · exact i2 p hp
    · rintro k ((hk | hk) | (hk | hk))
      · exact exS_live h1 k (.inl hk)
      · exact i3 k (.inl hk)
      · exact exS_live h1 k (.inr hk)
      · exact i3 k (.inr hk)
theorem homeK_ok : ∀ {ss : List Sc} {key : Nat} {l : List C} {us args : List Value}, homeK key ss l = true → All2 (crep w Z κ) l us → HomeC κ key ss args → HomeC κ' key ss us → HomeC κ' key ss args
  | [], _, [], [], [], _, _, _, _ => trivial
  | .v _ :: ss, key, c :: l, u :: us, v :: args, h, ha, h1, h2 => homeK_ok (ss := ss) (key := key + 1) (l := l) (us := us) (args := args) h ha.2 h1 h2
  | .o _ _ false :: ss, key, c :: l, u :: us, v :: args, h, ha, h1, h2 => homeK_ok (ss := ss) (key := key + 1) (l := l) (us := us) (args := args) h ha.2 h1 h2
  | .o _ _ true :: ss, key, c :: l, u :: us, v :: args, h, ha, h1, h2 => by
    simp only [homeK, Bool.and_eq_true] at h
    cases c with
    | own k =>
      have := beq_eq h.1
      subst this
      obtain rfl : u = v := Option.some.inj (ha.1.1.symm.trans h1.1)
      exact ⟨h2.1, homeK_ok (ss := ss) (key := k + 1) (l := l) (us := us) (args := args) h.2 ha.2 h1.2 h2.2⟩
    | _ => exact absurd h.1 (by simp)
  | [], _, [], [], _ :: _, _, _, h1, _ => h1.elim
  | [], _, [], _ :: _, _, _, ha, _, _ => ha.elim
  | [], _, _ :: _, _, _, h, _, _, _ => by cases h
  | .v _ :: _, _, [], _, _, h, _, _, _ => by cases h
  | .o _ _ true :: _, _, [], _, _, h, _, _, _ => by cases h
  | .o _ _ false :: _, _, [], _, _, h, _, _, _ => by cases h
  | _ :: _, _, _ :: _, [], _, _, ha, _, _ => ha.elim
  | .v _ :: _, _, _ :: _, _ :: _, [], _, _, h1, _ => h1.elim
  | .o _ _ true :: _, _, _ :: _, _ :: _, [], _, _, h1, _ => h1.elim
  | .o _ _ false :: _, _, _ :: _, _ :: _, [], _, _, h1, _ => h1.elim
theorem sameO_homeB : ∀ {ss : List Sc} {key : Nat} {us0 us : List Value}, SameO ss us0 us → HomeB κ key ss us → HomeB κ key ss us0
  | [], _, [], [], _, _ => trivial
  | .v _ :: ss, key, _ :: us0, _ :: us, h, hb => sameO_homeB (ss := ss) (key := key + 1) (us0 := us0) (us := us) h hb
  | .o .. :: ss, key, u0 :: us0, u :: us, h, hb => ⟨h.1 ▸ hb.1, sameO_homeB (ss := ss) (key := key + 1) (us0 := us0) (us := us) h.2 hb.2⟩
  | [], _, _ :: _, _, h, _ => by cases h
  | [], _, [], _ :: _, h, _ => by cases h
  | .v _ :: _, _, [], _, h, _ => by cases h
  | .v _ :: _, _, _ :: _, [], h, _ => by cases h
  | .o .. :: _, _, [], _, h, _ => by cases h
  | .o .. :: _, _, _ :: _, [], h, _ => by cases h
theorem homeS_ok (hT : TR w Z κ own tb) {sh : Sh} {key : Nat} {v : AV} {u arg : Value} (hc : homeS tb key sh v = true) (hv : avrep w Z κ v u) (h0 : HomeS w0 κ key sh arg) (h1 : HomeS w κ' key sh u) : HomeS w0 κ' key sh arg := by
  unfold homeS at hc
  split at hc
  · rename_i s c
    have : All2 (crep w Z κ) [c] [u] := ⟨hv, trivial⟩
    exact homeK_ok hc this h0 h1
  · obtain ⟨us, rfl, hall⟩ := hv
    obtain ⟨us0, rfl, h2⟩ := h0
    obtain ⟨us1, e, h3⟩ := h1
    cases e
    exact ⟨us0, rfl, homeK_ok hc hall h2 h3⟩
  · obtain ⟨us, rfl, hall⟩ := hv
    obtain ⟨us0, rfl, h2⟩ := h0
    obtain ⟨us1, e, h3⟩ := h1
    cases e
    exact ⟨us0, rfl, homeK_ok hc hall h2 h3⟩
  · rename_i cs k
    simp only [Bool.and_eq_true] at hc
    have := beq_eq hc.1
    subst this
    split at hc
    · rename_i l hl
      obtain ⟨b, hk, rfl⟩ := hv
      obtain ⟨b0, us0, e0, rfl, hk0, hh0, hb0⟩ := h0
      rw [hk] at hk0
      simp only [Option.some.injEq, Value.pointer.injEq, Addr.mk.injEq, and_true] at hk0
      subst hk0
      obtain ⟨b1, us1, e1, hp1, hk1, hh1, hb1⟩ := h1
      rw [add_mk] at hp1
      simp only [Value.pointer.injEq, Option.some.injEq, Addr.mk.injEq, and_true] at hp1
      subst hp1
      obtain ⟨u2, hu2, b2, us2, e2, rfl, hh2, hall⟩ := hT.box k l hl
      rw [hk] at hu2
      simp only [Option.some.injEq, Value.pointer.injEq, Addr.mk.injEq, and_true] at hu2
      subst hu2
      rw [hh1] at hh2
      cases hh2
      rw [add_mk] at hk1
      exact ⟨b, us0, e0, rfl, hk1, hh0, sameO_homeB (homeCs_same hc.2 hall hb0) hb1⟩
    · exact absurd hc.2 (by simp)
  · cases hc
theorem homeC_none : ∀ {ss : List Sc} {key : Nat} {us : List Value}, backC key ss = [] → HomeC κ key ss us → HomeC κ' key ss us
  | [], _, [], _, _ => trivial
  | .v _ :: ss, key, _ :: us, h, hh => homeC_none (ss := ss) (key := key + 1) (us := us) h hh
  | .o _ _ false :: ss, key, _ :: us, h, hh => homeC_none (ss := ss) (key := key + 1) (us := us) h hh
  | .o _ _ true :: _, _, _, h, _ => by cases h
  | [], _, _ :: _, _, hh => hh.elim
  | .v _ :: _, _, [], _, hh => hh.elim
  | .o _ _ false :: _, _, [], _, hh => hh.elim
theorem homeS_none {sh : Sh} {key : Nat} {arg : Value} (h : backS key sh = []) (h0 : HomeS w0 κ key sh arg) : HomeS w0 κ' key sh arg := by
  cases sh with
  | c s => exact homeC_none h h0
  | agg cs => obtain ⟨us, e, h2⟩ := h0; exact ⟨us, e, homeC_none h h2⟩
  | clo f cs => obtain ⟨us, e, h2⟩ := h0; exact ⟨us, e, homeC_none h h2⟩
  | box cs => cases h
theorem look_mem {α : Type} : ∀ {l : List (Nat × α)} {n : Nat} {x : α}, look l n = some x → (n, x) ∈ l
  | [], _, _, h => by cases h
  | (k, y) :: l, n, x, h => by
    rw [look_cons] at h
    split at h
    · rename_i e
      cases h
      simp [e]
    · simp [look_mem h]
theorem homeF_ok (hR : Rel cx w0 Z0 own H s a w Z κ) {l : List (Nat × Sh)} (hl : ∀ p ∈ l, HomeS w κ' (1000000 + p.1 * 1000) p.2 (a.tmps.getD p.1 Go.undef)) : ∀ {ts : List Nat} {ps : List Sh} {args : List Value}, homeF s l ts ps = true → HomeP w0 κ ts ps args → HomeP w0 κ' ts ps args
  | [], [], [], _, _ => trivial
  | _ :: _, [], [], _, _ => trivial
  | i :: ts, sh :: ps, arg :: args, h, hh => by
    simp only [homeF, Bool.and_eq_true, Bool.or_eq_true, emptyL_iff] at h
    refine ⟨?_, homeF_ok hR hl h.2 hh.2⟩
    rcases h.1 with h1 | ⟨h1, h2⟩
    · exact homeS_none h1 hh.1
    · split at h1
      · rename_i v hv
        split at h2
        · rename_i sh' hsh
          have e := Sh.same_eq h2
          subst e
          have := hl (i, sh) (look_mem hsh)
          exact homeS_ok hR.tr h1 (hR.env i v hv).2 hh.1 this
        · cases h2
      · cases h1
  | [], _ :: _, _, _, hh => by simp [HomeP] at hh
  | _, [], _ :: _, _, hh => by simp [HomeP] at hh
  | _ :: _, _ :: _, [], _, hh => by simp [HomeP] at hh
theorem empty_tr {Z : Nat → Prop} (hz : ∀ b, Z b → b < w.heap.size) : TR w Z (fun _ => none) own ⟨[], []⟩ where
  zlt := hz
  row k r h := by cases h
  box k r h := by cases h
  dom k v h := by cases h
  sep k k' v v' b h := by rcases h with ⟨r, hr⟩ | ⟨cs, hc⟩ <;> contradiction
  away k v b h := by rcases h with ⟨r, hr⟩ | ⟨cs, hc⟩ <;> contradiction
/-- a run is cut: its frame is laid anew -/
theorem cut_ok {ts : List Nat} {ps : List Sh} {args : List Value} (hR : Rel cx w0 Z0 own (fun κ => HomeP w0 κ ts ps args) s a w Z κ) {l : List (Nat × Sh)} {x : Shs (l.map (·.2))} (hk : (keysOk (keysF s l) && nodup (fkeys l) && homeF s l ts ps) = true) (hx : exF s l = some x) :
    ∃ Z' κ', Rel cx w0 Z0 own (fun κ => HomeP w0 κ ts ps args) (mkF l x ⟨[], ⟨[], []⟩, s.n⟩) a w Z' κ' := by
  simp only [Bool.and_eq_true] at hk
  obtain ⟨⟨hk1, hk2⟩, hk3⟩ := hk
  obtain ⟨hnd, hap⟩ := keysOk_iff.1 hk1
  obtain ⟨hrep, hlt, hlive⟩ := exF_rep hR (F := (keysF s l).2) hx (fun _ h => h)
  have hzlt : ∀ b, plus Z κ (keysF s l).2 b → b < w.heap.size := by
    rintro b (hb | ⟨k, hk, v, hkv, hbv⟩)
    · exact hR.tr.zlt b hb
    · exact hR.tr.lt (hlive k (.inr hk)) hkv b hbv
  obtain ⟨κ', h1, _, h3, h4⟩ := mkF_laid (own := own) (g := fun t => a.tmps.getD t Go.undef) (st := ⟨[], ⟨[], []⟩, s.n⟩) (κ := fun _ => none) ⟨empty_tr hzlt, fun t v h => by cases h⟩ hrep (kb_nodup hR.tr hnd (fun k hk => hlive k (.inl hk)))
    (fun k u b hl => by rcases hl with ⟨r, hr⟩ | ⟨cs, hc⟩ <;> contradiction) (fun b hb => by
      obtain ⟨k, hk, v, hkv, hbv⟩ := mem_kb.1 hb
      obtain ⟨h4, h5⟩ := hR.tr.away k v b (hlive k (.inl hk)) hkv hbv
      refine ⟨?_, h5⟩
      rintro (hz | ⟨k', hk', v', hkv', hbv'⟩)
      · exact h4 hz
      · have := hR.tr.sep k k' v v' b (hlive k (.inl hk)) (hlive k' (.inr hk')) hkv hkv' hbv hbv'
        subst this
        exact hap k hk hk') (nodup_iff.1 hk2) (fun k _ => rfl) hlt
  refine ⟨_, κ', h1.tr, by rw [h3]; exact hR.n, h1.env, hR.defers, hR.gl.ext (fun _ _ => rfl) (fun b hb => .inl hb), hR.keep, fun b hb => .inl (hR.z0 b hb), ?_, homeF_ok hR h4 hk3 hR.home⟩
  rintro b (hb | ⟨k, hk, v, hkv, hbv⟩)
  · exact hR.zown b hb
  · exact .inr (hR.tr.away k v b (hlive k (.inr hk)) hkv hbv).2
end
end Go.Rf
end

section
/-! Rf: frames of rounds; worlds in which cells lie as they lay. -/
set_option autoImplicit false
namespace Go.Rf
open Go.RowKit

/-! ### a region in a round's frame -/
abbrev wideR (l : Nat) : Fence := Fence.wide.inRound l
section
variable {P : Program} {l n : Nat} {ops : Array Oper} {Q : Exit → Act → World → Prop}
theorem oper_in {o : Oper} {a : Act} {w : World} {K : Act → World → Prop} (hd : noDeferOp o = true) (h : o.wp P a w K Q) : o.wpIn (wideR l) n P a w K Q := by
  refine ⟨fun _ _ => trivial, ?_⟩
  rw [show (wideR l).round = some l from rfl, Oper.semAt_eq _ _ _ (fun c hc => by simp [noDeferOp, hc] at hd)]
  unfold Oper.wp at h
  revert h
  generalize (execOp a.eval o).run P w = r
  intro h
  have h0 : ∀ {p : Prop}, (wideR l).depth.isSome = true → p := fun hh => by cases hh
  cases r with
  | ok x w' =>
    cases x with
    | value v => exact h
    | skip => exact h
    | defer d => exact h
    | enter f args => exact ⟨h0, callsIn_wide.2 h⟩
    | row r args => exact ⟨h0, fun c cs _ => let ⟨v, w', r, s⟩ := h c cs; ⟨v, w', r, stepsIn_wide.2 s⟩⟩
    | round l f tmps as bd => exact h.elim
    | _ => exact h.elim
  | halt x w' => cases x <;> exact h
theorem noDefer_at : ∀ {l : List Oper} {i : Nat} {o : Oper}, noDefer l = true → l[i]? = some o → noDeferOp o = true
  | [], _, _, _, h => by simp at h
  | x :: l, 0, o, h, e => by
    simp only [noDefer, Bool.and_eq_true] at h
    simp only [List.getElem?_cons_zero, Option.some.injEq] at e
    exact e ▸ h.1
  | x :: l, i + 1, o, h, e => by
    simp only [noDefer, Bool.and_eq_true] at h
    exact noDefer_at (l := l) (i := i) h.2 (by simpa using e)
theorem ops_in (hQ : ¬ LetsOut Q) (hd : noDefer ops.toList = true) : ∀ (is : List Nat) (a : Act) (w : World), wpOps P ops Q is a w → wpOpsIn (wideR l) n P ops Q is a w
  | [], _, _, h => h
  | i :: is, a, w, h => by
    simp only [wpOps] at h
    simp only [wpOpsIn]
    cases ho : ops[i]? with
    | none =>
      simp only [ho] at h
      exact ops_in hQ hd is a w h
    | some o =>
      simp only [ho] at h
      by_cases hw : Region.wanted o (yielded ops a.tmps) = true
      · simp only [hw, if_true] at h ⊢
        rcases h with h | ⟨_, h⟩
        · exact oper_in (noDefer_at hd (by simpa using ho)) (Oper.wp_mono (fun a w => ops_in hQ hd is a w) h)
        · exact (hQ h).elim
      · simp only [hw] at h ⊢
        exact ⟨fun _ _ => trivial, ops_in hQ hd is _ w h⟩
end
section
variable {cx : Cx} {w0 w w' : World} {Z0 Z Z' : Nat → Prop} {own : Nat → Prop} {H : (Nat → Option Value) → Prop} {s : St} {a : Act} {κ κ' : Nat → Option Value} {tb : Tb} {α : Type} {r : α} {ops : Array Oper}
  {call : (g : Nat) → (cx.spec g).In → Option (cx.spec g).Out}
/-- A region, in whatever frame. -/
theorem regionR_ok (G : Good cx) (hup : Up H) (ho : ∀ b, w0.heap.size ≤ b → own b) (hcall : ∀ g inp out, call g inp = some out → Contract cx g inp out) {draw : Bool} {id : Nat} {ro : Option Nat} (hd : ro = none ∨ noDefer ops.toList = true)
    {κf : St → Option α} (h : region cx call ops draw s κf = some r) (hR : Rel cx w0 Z0 own H s a w Z κ) (b : Frame) (hb : b.roundOf = ro) (k : List Item) (cs : List Frame) :
    ∃ s' a' w' Z' κ', Rel cx w0 Z0 own H s' a' w' Z' κ' ∧ κf s' = some r ∧ Steps cx.P (lone (b.atR a (.code (.region id ops draw) :: k)) cs w) (lone (b.atR a' k) cs w') := by
  cases ro with
  | none =>
    rw [Frame.atR_of_none hb]
    obtain ⟨s', a', w', Z', κ', h1, h2, h3⟩ := region_ok (id := id) G hup ho hcall h hR b k cs
    exact ⟨s', a', w', Z', κ', h1, h2, by rw [Frame.atR_of_none hb]; exact h3⟩
  | some l =>
    have hd : noDefer ops.toList = true := hd.resolve_left (by simp)
    obtain ⟨hf, ht⟩ := region_wp G hup ho hcall h hR
    have hQ : ¬ LetsOut (RegQ cx w0 Z0 own H κf r) := fun ⟨_, _, h, _⟩ => by cases h
    have hwp : (Code.region id ops draw).wpIn (wideR l) 0 cx.P (RegQ cx w0 Z0 own H κf r) a w := by
      cases draw with
      | false => exact wpIn_region (ops_in hQ hd _ _ _ (hf rfl))
      | true =>
        refine wpIn_region_draw fun t => ?_
        simp only [Region.schedule, G.mixed, Bool.true_or, if_true]
        exact ops_in hQ hd _ _ _ (wpAny_sound ops.size t _ a _ (ht rfl))
    obtain ⟨e, a', w', ⟨rfl, s', Z', κ', h1, h2⟩, harr⟩ := hwp b k cs hb trivial (fun d hd => by cases hd)
    exact ⟨s', a', w', Z', κ', h1, h2, stepsIn_wide.1 harr⟩

/-! ### cells lie as they lay -/
structure Same (w w' : World) : Prop where
  size : w.heap.size ≤ w'.heap.size
  cells : ∀ (b : Nat) (cs : Array Value) (t : TypeId) (fz : Nat × Nat), w.heap[b]? = some (.cells cs t fz) → w'.heap[b]? = some (.cells cs t fz)
theorem Same.refl (w : World) : Same w w := ⟨Nat.le_refl _, fun _ _ _ _ h => h⟩
theorem Same.trans {w1 w2 w3 : World} (h : Same w1 w2) (h' : Same w2 w3) : Same w1 w3 := ⟨Nat.le_trans h.size h'.size, fun b cs t fz hb => h'.cells b cs t fz (h.cells b cs t fz hb)⟩
theorem Same.putObj {l : Nat} {o o' : Obj} (h : w.heap[l]? = some o) (hc : o.isCells = false) : Same w (w.putObj l o') := ⟨by simp, fun b cs t fz hb => by
  by_cases e : l = b
  · subst e
    rw [h] at hb
    cases hb
    cases hc
  · exact (World.putObj_heap_other (fun e' => e e'.symm)).trans hb⟩
theorem Same.alloc (o : Obj) : Same w (w.alloc o) := ⟨by simp, fun b cs t fz hb => (Below.heap_alloc w o b (Array.getElem?_eq_some_iff.1 hb).1).trans hb⟩
theorem Same.cell (h : Same w w') {a : Addr} {u : Value} (hc : w.cell? a = some u) : w'.cell? a = some u := by
  unfold World.cell? at hc ⊢
  split at hc
  · rename_i c e fz hb
    rw [h.cells _ _ _ _ hb]
    exact hc
  · cases hc
theorem rep.same (h : Same w w') : ∀ {t : T} {x : t.D} {cs : List Value}, rep w Z t x cs → rep w' Z t x cs
  | .unit, _, _, e => e
  | .int _, _, _, e => e
  | .bool, _, _, e => e
  | .str, _, _, e => e
  | .err, _, _, e => e
  | .ref _, _, _, ⟨a, vs, e, hs, hza, hr, hc⟩ => ⟨a, vs, e, hs, hza, rep.same h hr, fun j u hj => h.cell (hc j u hj)⟩
  | .sl e, l, _, ⟨A, c, vs, e1, e2, hr, hc⟩ => ⟨A, c, vs, e1, e2, hr.mono (fun _ _ hx => rep.same h hx), fun j u hj => by
      obtain ⟨a, ha, hs, hza, hcell⟩ := hc j u hj
      exact ⟨a, ha, hs, hza, h.cell hcell⟩⟩
  | .pair _ _, _, _, ⟨c, d, e, h1, h2⟩ => ⟨c, d, e, rep.same h h1, rep.same h h2⟩
theorem crep.same (h : Same w w') {c : C} {v : Value} (hc : crep w Z κ c v) : crep w' Z κ c v := by
  cases c with
  | val t x => exact rep.same h hc
  | pel t x off => obtain ⟨a, vs, h1, h2, h3, h4, h5⟩ := hc; exact ⟨a, vs, h1, h2, h3, rep.same h h4, fun j u hj => h.cell (h5 j u hj)⟩
  | ifc b => cases b <;> exact hc
  | _ => exact hc
theorem trep.same (h : Same w w') {t : Bool × List C} {v : Value} (hc : trep w Z κ t v) : trep w' Z κ t v := by
  obtain ⟨b, cs⟩ := t
  cases b with
  | true => obtain ⟨us, h1, h2⟩ := hc; exact ⟨us, h1, h2.mono fun _ _ => crep.same h⟩
  | false => obtain ⟨c, h1, h2⟩ := hc; exact ⟨c, h1, crep.same h h2⟩
theorem avrep.same (h : Same w w') {a : AV} {v : Value} (hc : avrep w Z κ a v) : avrep w' Z κ a v := by
  cases a with
  | c x => exact crep.same h hc
  | agg cs => obtain ⟨us, h1, h2⟩ := hc; exact ⟨us, h1, h2.mono fun _ _ => crep.same h⟩
  | tup ts => obtain ⟨us, h1, h2⟩ := hc; exact ⟨us, h1, h2.mono fun _ _ => trep.same h⟩
  | clo f cs => obtain ⟨us, h1, h2⟩ := hc; exact ⟨us, h1, h2.mono fun _ _ => crep.same h⟩
  | undef => exact hc
  | bot => trivial
theorem rowrep.same (h : Same w w') {v : Value} {r : Row} (hr : rowrep w Z v r) : rowrep w' Z v r := by
  obtain ⟨xs, h1, h2, h3⟩ := hr
  refine ⟨xs, h1.mono (fun _ _ hx => hx.same h), h2, ?_⟩
  rcases h3 with h3 | ⟨g, cap, cur, e, hg, h4⟩
  · exact .inl h3
  · exact .inr ⟨g, cap, cur, e, h.cells _ _ _ _ hg, h4⟩
theorem boxrep.same (h : Same w w') {v : Value} {cs : List C} (hr : boxrep w Z κ v cs) : boxrep w' Z κ v cs := by
  obtain ⟨b, vs, e, h1, h2, h3⟩ := hr
  exact ⟨b, vs, e, h1, h.cells _ _ _ _ h2, h3.mono fun _ _ => crep.same h⟩
theorem TR.same (hs : Same w w') (h : TR w Z κ own tb) : TR w' Z κ own tb where
  zlt b hb := Nat.lt_of_lt_of_le (h.zlt b hb) hs.size
  row k r hr := let ⟨v, hv, hrow⟩ := h.row k r hr; ⟨v, hv, hrow.same hs⟩
  box k cs hc := let ⟨v, hv, hb⟩ := h.box k cs hc; ⟨v, hv, hb.same hs⟩
  dom := h.dom
  sep := h.sep
  away := h.away
theorem GL.same (hs : Same w w') (h : GL cx w Z) : GL cx w' Z :=
  ⟨fun g v hg => crep.same (κ := fun _ => none) hs (h.1 g v hg), fun g cs hg => ⟨(h.2 g cs hg).1, (h.2 g cs hg).2.imp fun _ hq => hq.imp fun _ ht => ht.imp fun _ hf => ⟨hs.cells _ _ _ _ hf.1, hf.2⟩⟩⟩
theorem SRep.same (hs : Same w w') {s : Sc} {x : s.D} {v : Value} {fp : List Nat} (h : SRep w Z s x v fp) : SRep w' Z s x v fp := by
  cases s with
  | v t => exact ⟨rep.same hs h.1, h.2⟩
  | o e id k => exact ⟨rowrep.same hs h.1, h.2⟩
theorem SReps.same (hs : Same w w') : ∀ {cs : List Sc} {x : Dats cs} {vs : List Value} {fp : List Nat}, SReps w Z cs x vs fp → SReps w' Z cs x vs fp
  | [], _, [], _, h => h
  | _ :: _, _, _ :: _, _, ⟨f, g, e, h1, h2⟩ => ⟨f, g, e, h1.same hs, SReps.same hs h2⟩
  | [], _, _ :: _, _, h => h.elim
  | _ :: _, _, [], _, h => h.elim
theorem ShRep.same (hs : Same w w') {s : Sh} {x : s.D} {v : Value} {fp : List Nat} (h : ShRep w Z s x v fp) : ShRep w' Z s x v fp := by
  cases s with
  | c s => exact SRep.same hs h
  | agg cs => obtain ⟨us, e, h1⟩ := h; exact ⟨us, e, h1.same hs⟩
  | clo f cs => obtain ⟨us, e, h1⟩ := h; exact ⟨us, e, h1.same hs⟩
  | box cs => obtain ⟨b, us, e, f, h1, h2, h3, h4⟩ := h; exact ⟨b, us, e, f, h1, hs.cells _ _ _ _ h2, h3.same hs, h4⟩
theorem ShsRep.same (hs : Same w w') : ∀ {ss : List Sh} {x : Shs ss} {vs : List Value} {fp : List Nat}, ShsRep w Z ss x vs fp → ShsRep w' Z ss x vs fp
  | [], _, [], _, h => h
  | _ :: _, _, _ :: _, _, ⟨f, g, e, h1, h2⟩ => ⟨f, g, e, h1.same hs, ShsRep.same hs h2⟩
  | [], _, _ :: _, _, h => h.elim
  | _ :: _, _, [], _, h => h.elim
theorem PRepC.same (hs : Same w w') : ∀ {cs : List Sc} {p : DatP cs} {vs : List Value} {fp : List Nat}, PRepC w Z cs p vs fp → PRepC w' Z cs p vs fp
  | [], _, [], _, h => h
  | .v _ :: ss, p, _ :: us, _, h => PRepC.same hs (cs := ss) (p := p.2) (vs := us) h
  | .o _ _ true :: ss, p, _ :: us, _, ⟨g, h1, h2, h3⟩ => ⟨g, h1.same hs, h2, PRepC.same hs (cs := ss) (p := p.2) (vs := us) h3⟩
  | .o _ _ false :: ss, p, _ :: us, _, h => PRepC.same hs (cs := ss) (p := p.2) (vs := us) h
  | [], _, _ :: _, _, h => h.elim
  | .v _ :: _, _, [], _, h => h.elim
  | .o _ _ true :: _, _, [], _, h => h.elim
  | .o _ _ false :: _, _, [], _, h => h.elim
theorem PRepS.same {w1 : World} (hs0 : Same w w1) (hs : Same w' w0) {s : Sh} {p : s.P} {v : Value} {fp : List Nat} (h : PRepS w w' Z s p v fp) : PRepS w1 w0 Z s p v fp := by
  cases s with
  | c s => exact PRepC.same hs (cs := [s]) h
  | agg cs => obtain ⟨us, e, h1⟩ := h; exact ⟨us, e, h1.same hs⟩
  | clo f cs => obtain ⟨us, e, h1⟩ := h; exact ⟨us, e, h1.same hs⟩
  | box cs => obtain ⟨b, us0, e0, us, e, f, h1, h2, h3, h4, h5, h6⟩ := h; exact ⟨b, us0, e0, us, e, f, h1, hs0.cells _ _ _ _ h2, h3, hs.cells _ _ _ _ h4, h5.same hs, h6⟩
theorem PostRep.same {w1 : World} (hs0 : Same w w1) (hs : Same w' w0) : ∀ {ss : List Sh} {p : Post ss} {vs : List Value} {fp : List Nat}, PostRep w w' Z ss p vs fp → PostRep w1 w0 Z ss p vs fp
  | [], _, [], _, h => h
  | _ :: _, _, _ :: _, _, ⟨f, g, e, h1, h2⟩ => ⟨f, g, e, h1.same hs0 hs, PostRep.same hs0 hs h2⟩
  | [], _, _ :: _, _, h => h.elim
  | _ :: _, _, [], _, h => h.elim
theorem HomeS.same (hs : Same w w') {key : Nat} {s : Sh} {v : Value} (h : HomeS w κ key s v) : HomeS w' κ key s v := by
  cases s with
  | box cs => obtain ⟨b, us, e, h1, h2, h3, h4⟩ := h; exact ⟨b, us, e, h1, h2, hs.cells _ _ _ _ h3, h4⟩
  | _ => exact h
theorem HomeP.same (hs : Same w w') : ∀ {ts : List Nat} {ss : List Sh} {vs : List Value}, HomeP w κ ts ss vs → HomeP w' κ ts ss vs
  | [], [], [], _ => trivial
  | _ :: _, [], [], _ => trivial
  | _ :: _, _ :: _, _ :: _, hh => ⟨hh.1.same hs, hh.2.same hs⟩
  | [], _ :: _, _, hh => by simp [HomeP] at hh
  | _, [], _ :: _, hh => by simp [HomeP] at hh
  | _ :: _, _ :: _, [], hh => by simp [HomeP] at hh
theorem Rel.sameW (hs : Same w w') {ds : List Deferred} (hk : Keep w0 w' own) (hd : DefOk w0 ds w') (h : Rel cx w0 Z0 own H s a w Z κ) : Rel cx w0 Z0 own H s { a with defers := ds } w' Z κ :=
  ⟨h.tr.same hs, h.n, fun t v ht => ⟨(h.env t v ht).1, (h.env t v ht).2.same hs⟩, hd, h.gl.same hs, hk, h.z0, h.zown, h.home⟩
theorem Keep.putObj {D : Nat} {o : Obj} (hD : w0.heap.size ≤ D) (h : Keep w0 w own) : Keep w0 (w.putObj D o) own :=
  ⟨h.os, h.tape, h.output, by simpa using h.size, fun b hb hn => (World.putObj_heap_other (by omega)).trans (h.block b hb hn), fun b o' hb ho => by
    have : b < w0.heap.size := (Array.getElem?_eq_some_iff.1 hb).1
    exact (World.putObj_heap_other (by omega)).trans (h.other b o' hb ho)⟩
/-- The marks are taken off: the world behind it. -/
def Closes : List Deferred → World → World → Prop
  | [], w, w' => w' = w
  | d :: ds, w, w' => ∃ D, d = mark D ∧ w.heap[D]? = some (.deferred (some [])) ∧ Closes ds (w.putObj D (.deferred none)) w'
theorem closes_of : ∀ {Ds : List Nat} {w : World}, Ds.Nodup → (∀ D ∈ Ds, w0.heap.size ≤ D ∧ w.heap[D]? = some (.deferred (some []))) → Keep w0 w own → ∃ w', Closes (Ds.map mark) w w' ∧ Same w w' ∧ Keep w0 w' own
  | [], w, _, _, hk => ⟨w, rfl, Same.refl w, hk⟩
  | D :: Ds, w, hn, h, hk => by
    obtain ⟨h1, h2⟩ := h D (by simp)
    rw [List.nodup_cons] at hn
    obtain ⟨w', h3, h4, h5⟩ := closes_of (Ds := Ds) (w := w.putObj D (.deferred none)) hn.2 (fun E hE => ⟨(h E (by simp [hE])).1, (World.putObj_heap_other (fun e => hn.1 (by rw [← e]; exact hE))).trans (h E (by simp [hE])).2⟩) (hk.putObj h1)
    exact ⟨w', ⟨D, rfl, h2, h3⟩, (Same.putObj h2 rfl).trans h4, h5⟩
theorem leave_steps {P : Program} {cs : List Frame} : ∀ {ds : List Deferred} {w w' : World} {fr : Frame}, Closes ds w w' → fr.mode = .returning → fr.defers = ds → Steps P (lone fr cs w) (lone { fr with defers := [] } cs w')
  | [], w, w', fr, h, _, hd => by
    subst h
    have : fr = { fr with defers := [] } := by rw [← hd]
    rw [← this]
    exact .refl _ _
  | d :: ds, w, w', fr, ⟨D, h1, h2, h3⟩, hm, hd => by
    have hs := step_collected (P := P) (cs := cs) (fr := fr) (by rw [hm]; simp) hd (by rw [h1]; rfl) (run_takeDeferred h2)
    exact Steps.trans (.one hs) (leave_steps (fr := { fr with defers := [] ++ ds }) h3 hm rfl)
end
end Go.Rf
end

section
/-! Rf: rounds of a range over slices.Backward. -/
set_option autoImplicit false
namespace Go.Rf
open Go.RowKit

def It.item : It → Item
  | .code c => .code c
  | .now n ops d => .code (.region n ops d)
  | .inLoop c => .inLoop c
  | .inBlock id => .inBlock id
/-- Where a run comes to: its return; in a round's frame, the round's end. -/
def Goal (P : Program) (fn : Func) (ro : Option Nat) (R : Ending → World → Prop) (b : Frame) (k : List Item) (cs : List Frame) (m : Machine) : Prop := match ro with
  | none => ∃ a' w' w'' todo v, Closes a'.defers w' w'' ∧ (results fn a'.tmps).run P w'' = .ok v w'' ∧ R (.returned v) w'' ∧ m = lone { b.atR a' todo with mode := .returning } cs w'
  | some _ => ∃ a' w' v, R (.returned v) w' ∧ m = lone (b.atR a' k) cs w'
/-- From these items on the run comes to its end. -/
def Reach (P : Program) (fn : Func) (ro : Option Nat) (R : Ending → World → Prop) (its : List It) (a : Act) (w : World) : Prop :=
  ∀ (b : Frame) (k : List Item) (cs : List Frame), b.roundOf = ro → (ro = none → k = []) → ∃ m, Goal P fn ro R b k cs m ∧ Steps P (lone (b.atR a (its.map It.item ++ k)) cs w) m
theorem Reach.step {P : Program} {fn : Func} {ro : Option Nat} {R : Ending → World → Prop} {its its' : List It} {a a' : Act} {w w' : World}
    (hs : ∀ (b : Frame) (k : List Item) (cs : List Frame), b.roundOf = ro → Steps P (lone (b.atR a (its.map It.item ++ k)) cs w) (lone (b.atR a' (its'.map It.item ++ k)) cs w')) (h : Reach P fn ro R its' a' w') : Reach P fn ro R its a w := by
  intro b k cs hb hk
  obtain ⟨m, h1, h2⟩ := h b k cs hb hk
  exact ⟨m, h1, (hs b k cs hb).trans h2⟩
section
variable {cx : Cx} {w0 w w' : World} {Z0 Z Z' : Nat → Prop} {own : Nat → Prop} {H : (Nat → Option Value) → Prop} {s : St} {a : Act} {κ κ' : Nat → Option Value} {tb : Tb} {α : Type} {r : α}
  {call : (g : Nat) → (cx.spec g).In → Option (cx.spec g).Out}
/-- a frame of a function f that was handed 'args' -/
abbrev RelF (cx : Cx) (f : Nat) (w0 : World) (Z0 : Nat → Prop) (args : List Value) (fp : List Nat) (s : St) (a : Act) (w : World) (Z : Nat → Prop) (κ : Nat → Option Value) : Prop :=
  Rel cx w0 Z0 (fun b => b ∈ fp ∨ w0.heap.size ≤ b) (fun κ => HomeP w0 κ (cx.tms f) (cx.spec f).ps args) s a w Z κ
/-- the assignments to a loop's left sides -/
theorem assign_ok (G : Good cx) (hup : Up H) (ho : ∀ b, w0.heap.size ≤ b → own b) (hcall : ∀ g inp out, call g inp = some out → Contract cx g inp out) (b : Frame) (cs : List Frame) : ∀ (c : Code) {s : St} {a : Act} {w : World} {Z : Nat → Prop} {κ : Nat → Option Value} {κf : St → Option α} (k : List Item),
    assignK cx call c s κf = some r → Rel cx w0 Z0 own H s a w Z κ → ∃ s' a' w' Z' κ', Rel cx w0 Z0 own H s' a' w' Z' κ' ∧ κf s' = some r ∧ Steps cx.P (lone (b.atR a (.code c :: k)) cs w) (lone (b.atR a' k) cs w')
  | .skip, s, a, w, Z, κ, κf, k, h, hR => ⟨s, a, w, Z, κ, hR, h, .one stepR_skip⟩
  | .seq x y, s, a, w, Z, κ, κf, k, h, hR => by
    simp only [assignK] at h
    obtain ⟨s1, a1, w1, Z1, κ1, h1, h2, h3⟩ := assign_ok G hup ho hcall b cs x (.code y :: k) h hR
    obtain ⟨s2, a2, w2, Z2, κ2, h4, h5, h6⟩ := assign_ok G hup ho hcall b cs y k h2 h1
    exact ⟨s2, a2, w2, Z2, κ2, h4, h5, Steps.trans (.one stepR_seq) (h3.trans h6)⟩
  | .region id ops draw, s, a, w, Z, κ, κf, k, h, hR => by
    simp only [assignK] at h
    obtain ⟨hd, h1⟩ := cond_some h
    exact regionR_ok G hup ho hcall (.inr hd) h1 hR b rfl k cs
  | .cond .., _, _, _, _, _, _, _, h, _ => by simp [assignK] at h
  | .block .., _, _, _, _, _, _, _, h, _ => by simp [assignK] at h
  | .loop .., _, _, _, _, _, _, _, h, _ => by simp [assignK] at h
  | .exit .., _, _, _, _, _, _, _, h, _ => by simp [assignK] at h
  | .ret, _, _, _, _, _, _, _, h, _ => by simp [assignK] at h
  | .rangeFunc .., _, _, _, _, _, _, _, h, _ => by simp [assignK] at h
  | .goto .., _, _, _, _, _, _, _, h, _ => by simp [assignK] at h
  | .label .., _, _, _, _, _, _, _, h, _ => by simp [assignK] at h
  | .scope .., _, _, _, _, _, _, _, h, _ => by simp [assignK] at h

theorem SReps.lt : ∀ {cs : List Sc} {x : Dats cs} {vs : List Value} {fp : List Nat}, SReps w Z cs x vs fp → ∀ b ∈ fp, b < w.heap.size
  | [], _, [], _, h, b, hb => by rw [show _ = [] from h] at hb; cases hb
  | .v _ :: ss, x, _ :: vs, _, ⟨f, g, e, h1, h2⟩, b, hb => by
    rw [e, h1.2] at hb
    exact SReps.lt (cs := ss) h2 b (by simpa using hb)
  | .o _ _ _ :: ss, x, v :: vs, _, ⟨f, g, e, h1, h2⟩, b, hb => by
    rw [e, h1.2.2] at hb
    rcases List.mem_append.1 hb with hb | hb
    · obtain ⟨xs, _, ho⟩ := h1.1
      exact ownL_lt ho b (by simpa using hb)
    · exact SReps.lt (cs := ss) h2 b hb
  | [], _, _ :: _, _, h, _, _ => h.elim
  | .v _ :: _, _, [], _, h, _, _ => h.elim
  | .o .. :: _, _, [], _, h, _, _ => h.elim
theorem ShRep.lt {s : Sh} {x : s.D} {v : Value} {fp : List Nat} (h : ShRep w Z s x v fp) : ∀ b ∈ fp, b < w.heap.size := by
  cases s with
  | c s => exact SReps.lt (cs := [s]) (x := (x, ())) (vs := [v]) ⟨fp, [], by simp, h, rfl⟩
  | agg cs => obtain ⟨us, _, h1⟩ := h; exact h1.lt
  | clo f cs => obtain ⟨us, _, h1⟩ := h; exact h1.lt
  | box cs =>
    obtain ⟨b, us, e, f, _, h2, h3, rfl⟩ := h
    intro b' hb
    rcases List.mem_cons.1 hb with rfl | hb
    · exact (Array.getElem?_eq_some_iff.1 h2).1
    · exact h3.lt b' hb
theorem shs_lt : ∀ {ss : List Sh} {x : Shs ss} {vs : List Value} {fp : List Nat}, ShsRep w Z ss x vs fp → ∀ b ∈ fp, b < w.heap.size
  | [], _, [], _, h, b, hb => by rw [show _ = [] from h] at hb; cases hb
  | _ :: ss, x, _ :: vs, _, ⟨f, g, e, h1, h2⟩, b, hb => by
    rw [e] at hb
    rcases List.mem_append.1 hb with hb | hb
    · exact h1.lt b hb
    · exact shs_lt (ss := ss) h2 b hb
  | [], _, _ :: _, _, h, _, _ => h.elim
  | _ :: _, _, [], _, h, _, _ => h.elim
theorem Keep.putBoth {l : Nat} {o : Obj} (hl : l < w.heap.size) (h : Keep w w' own) : Keep (w.putObj l o) (w'.putObj l o) own :=
  ⟨h.os, h.tape, h.output, by simpa using h.size, fun b hb hn => by
    by_cases e : b = l
    · subst e
      rw [World.putObj_heap_same hl, World.putObj_heap_same (Nat.lt_of_lt_of_le hl h.size)]
    · rw [World.putObj_heap_other e, World.putObj_heap_other e]
      exact h.block b (by simpa using hb) hn, fun b o' hb ho => by
    by_cases e : b = l
    · subst e
      rw [World.putObj_heap_same hl] at hb
      rw [World.putObj_heap_same (Nat.lt_of_lt_of_le hl h.size), hb]
    · rw [World.putObj_heap_other e] at hb ⊢
      exact h.other b o' hb ho⟩
/-- What a round is asked to do: a record of it, where its parameters lie, its code. -/
def RoundC (cx : Cx) (L : Nat) (rec : Loop) (ts : List Nat) (n : Nat) (sp : Spec) (inp : sp.In) (o : sp.Out) : Prop :=
  ∀ W Z args fp tmps (c : Frame) (cs : List Frame), W.heap[L]? = some (.loop rec) → ShsRep W Z sp.ps inp args fp → fp.Nodup → (∀ b ∈ fp, ¬ Z b ∧ b < W.heap.size) → (∀ b, Z b → b < W.heap.size) → GL cx W Z → tmps.size = n →
    (∀ (j t : Nat) (v : Value), ts[j]? = some t → args[j]? = some v → tmps.getD t Go.undef = v) →
    ∃ w' v, AnsS sp o W Z args fp (.returned v) w' ∧ Steps cx.P (lone (Frame.round L rec.fn tmps rec.assign rec.body .normal) (c :: cs) W) (lone (c.finish (.bool true)) cs w')
theorem round_ok (G : Good cx) (hcall : ∀ g inp out, call g inp = some out → Contract cx g inp out) {p : Nat} {rnds : List It → St → Option (cx.spec p).Out}
    (hrnds : ∀ (its : List It) (s : St) (out : (cx.spec p).Out) (l : Nat) (fn : Func) (w0 : World) (Z0 : Nat → Prop) (args : List Value) (fp : List Nat) (a : Act) (w : World) (Z : Nat → Prop) (κ : Nat → Option Value), rnds its s = some out → RelF cx p w0 Z0 args fp s a w Z κ → Reach cx.P fn (some l) (Ans cx p out w0 Z0 args fp) its a w)
    {L n : Nat} {rec : Loop} (hst : rec.state = .ready) (hpe : rec.pending = none) (hnd : nodup (pkeys (cx.tms p) (cx.spec p).ps) = true) (hlt : ∀ t ∈ cx.tms p, t < n) (hlen : (cx.tms p).length = (cx.spec p).ps.length) :
    ∀ inp out, (assignK cx call rec.assign (mkP (cx.tms p) (cx.spec p).ps inp ⟨[], ⟨[], []⟩, n⟩) fun s1 => rnds [.code rec.body] s1) = some out → RoundC cx L rec (cx.tms p) n (cx.spec p) inp out := by
  intro inp out h W Z args fp tmps c cs hL hrep hfn hfp hZ hGL hsz hat
  have hlL : L < W.heap.size := (Array.getElem?_eq_some_iff.1 hL).1
  obtain ⟨κ', hLs, _, hn, hhome⟩ := mkP_laid (ts := cx.tms p) (own := fun b => b ∈ fp ∨ W.heap.size ≤ b) (g := fun t => tmps.getD t Go.undef)
    (st := ⟨[], ⟨[], []⟩, n⟩) (κ := fun _ => none) ⟨empty_tr hZ, fun t v h => by cases h⟩ hrep hat hfn (fun k u b hl => by rcases hl with ⟨r, hr⟩ | ⟨cs, hc⟩ <;> contradiction) (fun b hb => ⟨(hfp b hb).1, .inl hb⟩) (nodup_iff.1 hnd) (fun k _ => rfl) hlen hlt
  have hR : RelF cx p W Z args fp (mkP (cx.tms p) (cx.spec p).ps inp ⟨[], ⟨[], []⟩, n⟩) { tmps := tmps, defers := [] } W Z κ' :=
    ⟨hLs.tr, by rw [hn]; exact hsz, hLs.env, DefOk.nil, hGL, Keep.refl, fun _ h => h, fun _ h => .inl h, hhome⟩
  let b : Frame := { (default : Frame) with fn := rec.fn, kind := .normal, roundOf := some L }
  have hb0 : Frame.round L rec.fn tmps rec.assign rec.body .normal = b.atR { tmps := tmps, defers := [] } [.code rec.assign, .beginRound, .code rec.body] := by
    simp [Frame.round, Frame.atR, b]
  obtain ⟨s1, a1, w1, Z1, κ1, hR1, h1, st1⟩ := assign_ok G up_home (fun _ h => .inr h) hcall b (c :: cs) rec.assign [.beginRound, .code rec.body] h hR
  have hL1 : w1.heap[L]? = some (.loop rec) := hR1.keep.other L _ hL rfl
  have st2 := stepR_beginRound (P := cx.P) (b := b) (a := a1) (k := [.code rec.body]) (cs := c :: cs) (l := L) rfl (run_beginRound hL1 hst)
  have hs1 : Same w1 (w1.putObj L (.loop { rec with state := .busy })) := Same.putObj hL1 rfl
  have hsW : Same W (W.putObj L (.loop { rec with state := .busy })) := Same.putObj hL rfl
  have hd1 : a1.defers = [] ∨ a1.defers ≠ [] := by cases a1.defers <;> simp
  obtain ⟨Ds, hDs, hDn, hDD⟩ := hR1.defers
  have hR2 : RelF cx p (W.putObj L (.loop { rec with state := .busy })) Z args fp s1 a1 (w1.putObj L (.loop { rec with state := .busy })) Z1 κ1 := by
    refine ⟨hR1.tr.same hs1 |> fun h => by simpa using h, hR1.n, fun t v ht => ⟨(hR1.env t v ht).1, (hR1.env t v ht).2.same hs1⟩, ⟨Ds, hDs, hDn, fun D hD => ⟨by simpa using (hDD D hD).1, ?_⟩⟩, hR1.gl.same hs1, ?_, hR1.z0, ?_, hR1.home.same hsW⟩
    · have h3 := hDD D hD
      have : D ≠ L := by omega
      exact (World.putObj_heap_other this).trans h3.2
    · simpa using hR1.keep.putBoth (o := .loop { rec with state := .busy }) hlL
    · simpa using hR1.zown
  obtain ⟨m, ⟨a3, w3, v, hAns, rfl⟩, st3⟩ := hrnds _ _ _ L default _ _ _ _ _ _ _ _ h1 hR2 b [] (c :: cs) rfl (fun h => by cases h)
  obtain ⟨rvs, Z', rfp, pfp, e1, e2, e3, e4, e5, e6, e7, e8⟩ := hAns
  have hLb : (W.putObj L (.loop { rec with state := .busy })).heap[L]? = some (.loop { rec with state := .busy }) := World.putObj_heap_same hlL
  have hL3 : w3.heap[L]? = some (.loop { rec with state := .busy }) := e8.other L _ hLb rfl
  have hl3 : L < w3.heap.size := (Array.getElem?_eq_some_iff.1 hL3).1
  have hrec : ({ { rec with state := LoopState.busy } with state := (if (none : Option Code).isNone then LoopState.ready else .done), pending := none } : Loop) = rec := by
    cases rec
    simp at hst hpe
    subst hst hpe
    rfl
  have hend := run_endRound (P := cx.P) none hL3
  rw [hrec] at hend
  have st4 := stepR_round_end (P := cx.P) (b := b) (a := a3) (c := c) (cs := cs) (l := L) rfl rfl hend
  have hs3 : Same w3 (w3.putObj L (.loop rec)) := Same.putObj hL3 rfl
  have hsB : Same (W.putObj L (.loop { rec with state := .busy })) W := ⟨by simp, fun b' cs' t fz hb => by
    by_cases e : b' = L
    · subst e; rw [hLb] at hb; cases hb
    · rwa [World.putObj_heap_other e] at hb⟩
  refine ⟨w3.putObj L (.loop rec), v, ⟨rvs, Z', rfp, pfp, e1, e2.same hs3, e3.same hsB hs3, e4, by simpa using e5, e6, fun b hb => by have := e7 b hb; simpa using this, ?_⟩, ?_⟩
  · have e9 := e8.putBoth (o := .loop rec) (by simpa using hlL)
    have hW : (W.putObj L (.loop { rec with state := .busy })).putObj L (.loop rec) = W.putObj L (.loop rec) := by
      simp [World.putObj]
    rw [hW] at e9
    have hW2 : ∀ b', (W.putObj L (.loop rec)).heap[b']? = W.heap[b']? := fun b' => by
      by_cases e : b' = L
      · subst e; rw [World.putObj_heap_same hlL, hL]
      · exact World.putObj_heap_other e
    refine ⟨e9.os, e9.tape, e9.output, by simpa using e9.size, fun b' hb hn => (e9.block b' (by simpa using hb) (by simpa using hn)).trans (hW2 b'), fun b' o' hb ho => e9.other b' o' ((hW2 b').trans hb) ho⟩
  · rw [hb0]
    exact st1.trans (Steps.trans (.one st2) (st3.trans (.one st4)))
end
end Go.Rf
end

section
/-! Rf: a range over slices.Backward. -/
set_option autoImplicit false
namespace Go.Rf
open Go.RowKit

section
variable {w w' w'' : World} {Z Z' Z'' : Nat → Prop} {κ κ' : Nat → Option Value}
theorem one_n {e : T} (h : e.one = true) : e.n = 1 := by
  cases e <;> first | rfl | cases h
theorem one_reps {e : T} (he : e.one = true) : ∀ {l : List e.D} {vs : List Value}, reps (rep w Z e) l vs → vs.length = l.length ∧ ∀ (j : Nat) (x : e.D) (u : Value), l[j]? = some x → vs[j]? = some u → rep w Z e x [u]
  | [], vs, h => by
    rw [show vs = [] from h]
    exact ⟨rfl, fun j x u hj => by simp at hj⟩
  | y :: l, vs, ⟨c, d, e1, hy, hl⟩ => by
    have hc := hy.length
    rw [one_n he] at hc
    obtain ⟨i1, i2⟩ := one_reps he hl
    match c, hc with
    | [v], _ =>
      subst e1
      refine ⟨by simp [i1], fun j x u hj hu => ?_⟩
      cases j with
      | zero =>
        simp only [List.getElem?_cons_zero, Option.some.injEq, List.cons_append, List.nil_append] at hj hu
        subst hj hu
        exact hy
      | succ j => exact i2 j x u (by simpa using hj) (by simpa using hu)
theorem SameO.trans : ∀ {cs : List Sc} {a b c : List Value}, SameO cs a b → SameO cs b c → SameO cs a c
  | [], [], [], [], _, _ => trivial
  | .v _ :: ss, _ :: a, _ :: b, _ :: c, h, h' => SameO.trans (cs := ss) (a := a) (b := b) (c := c) h h'
  | .o .. :: ss, _ :: a, _ :: b, _ :: c, h, h' => ⟨h.1.trans h'.1, SameO.trans (cs := ss) (a := a) (b := b) (c := c) h.2 h'.2⟩
  | [], _ :: _, _, _, h, _ => by cases h
  | [], [], _ :: _, _, h, _ => by cases h
  | [], [], [], _ :: _, _, h => by cases h
  | .v _ :: _, [], _, _, h, _ => by cases h
  | .v _ :: _, _ :: _, [], _, h, _ => by cases h
  | .v _ :: _, _ :: _, _ :: _, [], _, h => by cases h
  | .o .. :: _, [], _, _, h, _ => by cases h
  | .o .. :: _, _ :: _, [], _, h, _ => by cases h
  | .o .. :: _, _ :: _, _ :: _, [], _, h => by cases h
theorem SameO.refl : ∀ {cs : List Sc} {x : Dats cs} {us : List Value} {fp : List Nat}, SReps w Z cs x us fp → SameO cs us us
  | [], _, [], _, _ => trivial
  | .v _ :: ss, x, _ :: us, _, ⟨_, _, _, _, h⟩ => SameO.refl (cs := ss) (x := x.2) (us := us) h
  | .o .. :: ss, x, _ :: us, _, ⟨_, _, _, _, h⟩ => ⟨rfl, SameO.refl (cs := ss) (x := x.2) (us := us) h⟩
  | [], _, _ :: _, _, h => h.elim
  | .v _ :: _, _, [], _, h => h.elim
  | .o .. :: _, _, [], _, h => h.elim
theorem next_post : ∀ {sh : List Sh} {d : Shs sh} {p : Post sh}, rshapes sh = true → toPA sh (nextA sh d p) = p
  | [], _, _, _ => rfl
  | .box _ :: sh, d, p, h => by
    have := next_post (sh := sh) (d := d.2) (p := p.2) h
    simp only [toPA, nextA, nextS, toPS, this]
  | .c (.v _) :: sh, d, p, h => by
    have := next_post (sh := sh) (d := d.2) (p := p.2) h
    simp only [toPA, nextA, this]
  | .c (.o ..) :: _, _, _, h => by cases h
  | .agg _ :: _, _, _, h => by cases h
  | .clo .. :: _, _, _, h => by cases h
theorem next_rep (hh : ∀ b, Z b → w'.heap[b]? = w.heap[b]?) (hz : ∀ b, Z b → Z' b) : ∀ {sh : List Sh} {d : Shs sh} {p : Post sh} {vs : List Value} {fp0 fp : List Nat}, rshapes sh = true → ShsRep w Z sh d vs fp0 → PostRep w w' Z' sh p vs fp → ShsRep w' Z' sh (nextA sh d p) vs fp
  | [], _, _, [], _, _, _, _, h => h
  | .box cs :: sh, d, p, v :: vs, _, _, h, ⟨_, _, _, _, h2⟩, ⟨f', g', e, ⟨b, us0, e0, us, e', f1, h3, _, _, h4, h5, h6⟩, h7⟩ =>
    ⟨f', g', e, ⟨b, us, e', f1, h3, h4, h5, h6⟩, next_rep hh hz (sh := sh) h h2 h7⟩
  | .c (.v t) :: sh, d, p, v :: vs, _, _, h, ⟨_, _, _, h1, h2⟩, ⟨f', g', e, h3, h7⟩ => ⟨f', g', e, ⟨h1.1.ext hh hz, h3⟩, next_rep hh hz (sh := sh) h h2 h7⟩
  | .c (.o ..) :: _, _, _, _ :: _, _, _, h, _, _ => by cases h
  | .agg _ :: _, _, _, _ :: _, _, _, h, _, _ => by cases h
  | .clo .. :: _, _, _, _ :: _, _, _, h, _, _ => by cases h
  | [], _, _, _ :: _, _, _, _, h, _ => h.elim
  | _ :: _, _, _, [], _, _, _, h, _ => h.elim
theorem post_refl : ∀ {sh : List Sh} {d : Shs sh} {vs : List Value} {fp : List Nat}, rshapes sh = true → ShsRep w Z sh d vs fp → PostRep w w Z sh (toPA sh d) vs fp
  | [], _, [], _, _, h => h
  | .box cs :: sh, d, v :: vs, _, h, ⟨f', g', e, ⟨b, us, e', f1, h1, h2, h3, h4⟩, h5⟩ => ⟨f', g', e, ⟨b, us, e', us, e', f1, h1, h2, SameO.refl h3, h2, h3, h4⟩, post_refl (sh := sh) h h5⟩
  | .c (.v t) :: sh, d, v :: vs, _, h, ⟨f', g', e, h1, h5⟩ => ⟨f', g', e, h1.2, post_refl (sh := sh) h h5⟩
  | .c (.o ..) :: _, _, _ :: _, _, h, _ => by cases h
  | .agg _ :: _, _, _ :: _, _, h, _ => by cases h
  | .clo .. :: _, _, _ :: _, _, h, _ => by cases h
  | [], _, _ :: _, _, _, h => h.elim
  | _ :: _, _, [], _, _, h => h.elim
theorem post_trans : ∀ {sh : List Sh} {p p' : Post sh} {vs : List Value} {fp fp' : List Nat}, rshapes sh = true → PostRep w w' Z sh p vs fp → PostRep w' w'' Z' sh p' vs fp' → PostRep w w'' Z' sh p' vs fp'
  | [], _, _, [], _, _, _, _, h => h
  | .box cs :: sh, p, p', v :: vs, _, _, h, ⟨_, _, _, ⟨b, us0, e0, us, e', f1, h1, h2, h3, h4, _, _⟩, h5⟩, ⟨f', g', e, ⟨b2, us2, e2, us3, e3, f3, k1, k2, k3, k4, k5, k6⟩, k7⟩ => by
    have hb : b2 = b := by rw [h1] at k1; simpa using k1.symm
    subst hb
    rw [h4] at k2
    cases k2
    exact ⟨f', g', e, ⟨b2, us0, e0, us3, e3, f3, k1, h2, h3.trans k3, k4, k5, k6⟩, post_trans (sh := sh) h h5 k7⟩
  | .c (.v t) :: sh, p, p', v :: vs, _, _, h, ⟨_, _, _, _, h5⟩, ⟨f', g', e, h1, k7⟩ => ⟨f', g', e, h1, post_trans (sh := sh) h h5 k7⟩
  | .c (.o ..) :: _, _, _, _ :: _, _, _, h, _, _ => by cases h
  | .agg _ :: _, _, _, _ :: _, _, _, h, _, _ => by cases h
  | .clo .. :: _, _, _, _ :: _, _, _, h, _, _ => by cases h
  | [], _, _, _ :: _, _, _, _, h, _ => h.elim
  | _ :: _, _, _, [], _, _, _, h, _ => h.elim
end
theorem rndOf_some {sp : Spec} {run : sp.In → Option sp.Out} {r : (e : T) × (ps : List Sh) × (Int → e.D → Shs ps → Option (Post ps))} (h : rndOf sp run = some r) {C : (sp : Spec) → sp.In → sp.Out → Prop} (hC : ∀ inp o, run inp = some o → C sp inp o) :
    sp.ps.length = r.2.1.length + 2 ∧ ∀ i x d p, r.2.2 i x d = some p → ∃ o : Spec.Out ⟨.c (.v (.int .i64)) :: .c (.v r.1) :: r.2.1, []⟩, o.2.2.2 = p ∧ C ⟨.c (.v (.int .i64)) :: .c (.v r.1) :: r.2.1, []⟩ (i, x, d) o := by
  unfold rndOf at h
  split at h
  · cases h
    refine ⟨rfl, fun i x d p hp => ?_⟩
    obtain ⟨o, h1, h2⟩ := Option.bind_eq_some_iff.1 hp
    cases h2
    exact ⟨o, rfl, hC _ _ h1⟩
  · cases h
theorem allLt_iff {n : Nat} : ∀ {l : List Nat}, allLt n l = true → ∀ t ∈ l, t < n
  | [], _, _, h => by cases h
  | x :: l, h, t, ht => by
    simp only [allLt, Bool.and_eq_true] at h
    rcases List.mem_cons.1 ht with rfl | ht
    · exact Nat.lt_of_lt_of_le (Nat.lt_succ_self _) (Nat.le_of_ble_eq_true h.1)
    · exact allLt_iff h.2 t ht
theorem drop_cons {α : Type} : ∀ {l : List α} {k : Nat} {x : α}, l[k]? = some x → l.drop k = x :: l.drop (k + 1)
  | [], k, x, h => by simp at h
  | y :: l, 0, x, h => by simp at h; simp [h]
  | y :: l, k + 1, x, h => by simpa using drop_cons (l := l) (k := k) (by simpa using h)
section
variable {cx : Cx} {w0 w w' : World} {Z0 Z Z' : Nat → Prop} {own : Nat → Prop} {H : (Nat → Option Value) → Prop} {s : St} {a : Act} {κ κ' : Nat → Option Value} {tb : Tb} {α : Type} {r : α}
  {call : (g : Nat) → (cx.spec g).In → Option (cx.spec g).Out}
theorem envAVs_ok (hR : Rel cx w0 Z0 own H s a w Z κ) : ∀ l : List Nat, All2 (avrep w Z κ) (envAVs cx s l) (l.map fun t => a.tmps.getD t Go.undef)
  | [] => trivial
  | t :: l => ⟨opAV_ok hR (.tmp t), envAVs_ok hR l⟩
/-- A RANGE OVER slices.Backward. -/
theorem range_ok (G : Good cx) (hcall : ∀ g inp out, call g inp = some out → Contract cx g inp out) {f : Nat} {rnds : (p : Nat) → List It → St → Option (cx.spec p).Out}
    (hrnds : ∀ (p : Nat) (its : List It) (s : St) (out : (cx.spec p).Out) (l : Nat) (fn : Func) (w0 : World) (Z0 : Nat → Prop) (args : List Value) (fp : List Nat) (a : Act) (w : World) (Z : Nat → Prop) (κ : Nat → Option Value), isRound p = true → rnds p its s = some out → RelF cx p w0 Z0 args fp s a w Z κ → Reach cx.P fn (some l) (Ans cx p out w0 Z0 args fp) its a w)
    (ho : ∀ b, w0.heap.size ≤ b → own b) (hup : Up H) {g : Operand} {ps : Array Tmp} {asg body : Code} {κf : Tb → Option α} (h : rangeK cx f rnds call g ps.toList asg body s κf = some r) (hR : Rel cx w0 Z0 own H s a w Z κ) (b : Frame) (hb : b.roundOf = none) (k : List Item) (cs : List Frame) :
    ∃ tb' a' w' Z' κ', Rel cx w0 Z0 own H ⟨s.env, tb', s.n⟩ a' w' Z' κ' ∧ κf tb' = some r ∧ Steps cx.P (lone (b.atR a (.code (.rangeFunc g ps asg body) :: k)) cs w) (lone (b.atR a' k) cs w') := by
  unfold rangeK at h
  obtain ⟨-, h⟩ : isRound f = false ∧ _ := by
    cases hf : isRound f with
    | true => rw [hf] at h; cases h
    | false => rw [hf] at h; exact ⟨rfl, h⟩
  split at h
  case h_2 => cases h
  rename_i t1 t2 hps
  split at h
  case h_2 => cases h
  rename_i p hrng
  split at h
  case h_2 => cases h
  rename_i u1 u2 tms htms
  obtain ⟨hchk, h⟩ := cond_some h
  simp only [Bool.and_eq_true] at hchk
  obtain ⟨⟨⟨⟨⟨⟨hip, hu1⟩, hu2⟩, hnk⟩, hlt⟩, hlen⟩, hnt⟩ := hchk
  have hu1 := beq_eq hu1
  have hu2 := beq_eq hu2
  have hlen := beq_eq hlen
  subst hu1 hu2
  have hlt := allLt_iff hlt
  have hnt := nodup_iff.1 hnt
  split at h
  case h_2 => cases h
  rename_i R hRnd
  obtain ⟨hsh, h⟩ := cond_some h
  simp only [Bool.and_eq_true] at hsh
  obtain ⟨hone, hsh⟩ := hsh
  split at h
  case h_2 => cases h
  rename_i kl hbk
  obtain ⟨hnble, h⟩ := chk_some h
  have hn := Nat.le_of_ble_eq_true hnble
  clear hnble
  unfold loopK at h
  obtain ⟨hkk, h⟩ := cond_some h
  simp only [Bool.and_eq_true, Bool.not_eq_true', emptyL_iff] at hkk
  obtain ⟨⟨hkeys, hkn⟩, hF⟩ := hkk
  obtain ⟨d0, hd0, h⟩ := Option.bind_eq_some_iff.1 h
  obtain ⟨d1, hd1, hκf⟩ := Option.bind_eq_some_iff.1 h
  obtain ⟨e, sh, rnd⟩ := R
  simp only at hone hsh hd1 hkeys hkn hF hd0 hκf
  obtain ⟨kB, l00⟩ := kl
  simp only at hn hd1 hkn
  -- what was handed over
  have hv := envAVs_ok hR tms
  have hown : ∀ b, w.heap.size ≤ b → own b := fun b hb => ho b (Nat.le_trans hR.keep.size hb)
  obtain ⟨hrep, hfnd, hfp, hZlt, hlL, main⟩ := call_core (sp := ⟨sh, []⟩) (inp := d0) (out := ((), toPA sh d1)) (d := 0) hR.tr hown hv hkeys (fun k hk => by cases hk) rfl List.nodup_nil (.inl hF) (fun h => by simp [Spec.perm] at h) hd0
  have hpl : plus Z κ (keysA s.tb sh (envAVs cx s tms)).2 = Z := by rw [hF]; funext b; simp [plus]
  simp only [hpl] at hrep hfp hZlt main
  generalize hLk : kb κ (keysA s.tb sh (envAVs cx s tms)).1 = fp0 at *
  generalize hus : (tms.map fun t => a.tmps.getD t Go.undef) = us at *
  -- the iterator
  unfold backAt at hbk
  have hg := opAV_ok hR g
  split at hbk
  case h_2 => cases hbk
  rename_i g1 kk hgv
  obtain ⟨hit, hbk⟩ := cond_some hbk
  split at hbk
  case h_2 => cases hbk
  rename_i cB hbox
  obtain ⟨l0, hcell, hbk⟩ := Option.bind_eq_some_iff.1 hbk
  simp only [Option.some.injEq, Prod.mk.injEq] at hbk
  obtain ⟨rfl, rfl⟩ := hbk
  rw [hgv] at hg
  obtain ⟨ug, hgval, hgc⟩ := hg
  obtain ⟨B, hκB, hug⟩ : ∃ B, κ kk = some (.pointer (some ⟨B, 0, none⟩)) ∧ ug = #[.pointer (some ⟨B, 0, none⟩)] := by
    obtain ⟨ul⟩ := ug
    match ul, hgc with
    | [u], hgc =>
      obtain ⟨B, h1, h2⟩ := hgc.1
      rw [add_mk] at h2
      exact ⟨B, h1, by rw [h2]⟩
    | [], hgc => exact hgc.elim
    | _ :: _ :: _, hgc => exact hgc.2.elim
  subst hug
  obtain ⟨vB, hvB, B', usB, TB, e1, hhB, hallB⟩ := hR.tr.box kk _ hbox
  rw [hκB] at hvB
  cases hvB
  cases e1
  obtain ⟨A, cap, vs, hslice, hcap, hreps, hcells⟩ : ∃ A cap vs, usB = #[.slice A l0.length cap] ∧ l0.length ≤ cap ∧ reps (rep w Z e) l0 vs ∧ ∀ (j : Nat) (u : Value), vs[j]? = some u → ∃ a : Addr, A = some a ∧ a.spot = none ∧ Z a.block ∧ w.cell? (a.add j) = some u := by
    obtain ⟨ul⟩ := usB
    match ul, hallB with
    | [u], hallB =>
      have hc := hallB.1
      cases cB with
      | val t x =>
        simp only [cell] at hcell
        split at hcell
        · rename_i ht
          subst ht
          cases hcell
          obtain ⟨A, cap, vs, e1, e2, e3, e4⟩ := hc
          cases e1
          exact ⟨A, cap, vs, rfl, e2, e3, e4⟩
        · cases hcell
      | nils =>
        simp only [cell] at hcell
        cases hcell
        exact ⟨none, 0, [], by rw [show u = _ from hc]; rfl, Nat.le_refl _, rfl, fun j u hj => by simp at hj⟩
      | _ => simp [cell] at hcell
    | [], hallB => exact hallB.elim
    | _ :: _ :: _, hallB => exact hallB.2.elim
  subst hslice
  obtain ⟨hvl, hone2⟩ := one_reps hone hreps
  have hlB : B < w.heap.size := (Array.getElem?_eq_some_iff.1 hhB).1
  have hBfp : B ∉ fp0 := by
    rw [← hLk]
    intro hm
    obtain ⟨k', hk', v', hkv', hbv'⟩ := mem_kb.1 hm
    have := hR.tr.sep k' kk v' _ B (hlL k' hk') (.inr ⟨_, hbox⟩) hkv' hκB hbv' rfl
    subst this
    rw [inl_iff.2 hk'] at hkn
    cases hkn
  obtain ⟨hiter, hinv⟩ := G.iter g1 hit
  -- the records
  obtain ⟨rec, hrec⟩ : ∃ rec : Loop, rec = { state := .ready, pending := none, fn := b.fn, tmps := a.tmps, params := ps, assign := asg, body := body, defers := w.heap.size } := ⟨_, rfl⟩
  obtain ⟨W1, hW1⟩ : ∃ W1, (w.alloc (.deferred (some []))).alloc (.loop rec) = W1 := ⟨_, rfl⟩
  have hL1 : W1.heap[w.heap.size + 1]? = some (.loop rec) := by
    rw [← hW1]; have := World.alloc_heap_new (w.alloc (.deferred (some []))) (.loop rec); rwa [World.size_alloc] at this
  have hD1 : W1.heap[w.heap.size]? = some (.deferred (some [])) := by
    rw [← hW1]; exact (Below.heap_alloc _ _ _ (by simp)).trans (World.alloc_heap_new w _)
  have hgr : w.grownBy W1 none := by rw [← hW1]; exact grown_trans (grown_alloc _) (grown_alloc _)
  have hsm1 : Same w W1 := by rw [← hW1]; exact (Same.alloc _).trans (Same.alloc _)
  let J : Nat → World → Prop := fun k W => ∃ d Zk fpk, backK e sh rnd (l0.reverse.drop k) d = some d1 ∧ ShsRep W Zk sh d us fpk ∧ PostRep w W Zk sh (toPA sh d) us fpk ∧ fpk.Nodup ∧ (∀ b ∈ fpk, ¬ Zk b ∧ b < W.heap.size ∧ (b ∈ fp0 ∨ w.heap.size ≤ b)) ∧ (∀ b, Z b → Zk b) ∧
    (∀ b, Zk b → b < W.heap.size ∧ (Z b ∨ b ∈ fp0 ∨ w.heap.size ≤ b)) ∧ Keep w W (fun b => b ∈ fp0 ∨ w.heap.size ≤ b) ∧ W.heap[w.heap.size + 1]? = some (.loop rec) ∧ W.heap[w.heap.size]? = some (.deferred (some []))
  have hKh : ∀ {W : World}, Keep w W (fun b => b ∈ fp0 ∨ w.heap.size ≤ b) → ∀ b, b < w.heap.size → b ∉ fp0 → W.heap[b]? = w.heap[b]? := fun hK b hb hn => hK.block b hb (fun h => h.elim hn (fun h => by omega))
  have hZfp : ∀ b, Z b → b ∉ fp0 := fun b hz hm => (hfp b hm).1 hz
  have hJ0 : J 0 W1 := ⟨d0, Z, fp0, by simpa using hd1, hrep.same hsm1, (post_refl hsh hrep).same (Same.refl _) hsm1, hfnd, fun b hb => ⟨(hfp b hb).1, Nat.lt_of_lt_of_le (hfp b hb).2 hsm1.size, .inl hb⟩, fun _ h => h, fun b hb => ⟨Nat.lt_of_lt_of_le (hZlt b hb) hsm1.size, .inl hb⟩, Keep.of_grown hgr, hL1, hD1⟩
  obtain ⟨hspl, hrc⟩ := rndOf_some hRnd (C := RoundC cx (w.heap.size + 1) rec (t1 :: t2 :: tms) s.n) (by
    intro inp o hrun
    have := round_ok (p := p) (rnds := rnds p) (L := w.heap.size + 1) (n := s.n) (rec := rec) G hcall (fun its s out l fn w0 Z0 args fp a w Z κ => hrnds p its s out l fn w0 Z0 args fp a w Z κ hip) (by rw [hrec]) (by rw [hrec]) (by rw [htms]; exact hnk) (by rw [htms]; exact hlt) (by rw [htms]; simpa using hlen) inp o
      (by rw [htms]; rw [hrec]; exact hrun)
    rw [htms] at this
    exact this)
  have hcalls := hiter B TB A cap vs (w.heap.size + 1) J W1 (by rw [hvl]; exact hcap) (by rw [hvl]; exact hn)
    (fun k W hJ => by
      obtain ⟨d, Zk, fpk, _, _, _, _, _, _, _, hK, _, _⟩ := hJ
      refine ⟨by rw [hKh hK B hlB hBfp, hhB, hvl], fun j u hj => ?_⟩
      obtain ⟨a', h1, h2, h3, h4⟩ := hcells j u hj
      exact ⟨a', h1, h2, (cell_block (by rw [add_block]; exact hKh hK _ (hZlt _ h3) (hZfp _ h3))).trans h4⟩)
    (fun k W u hJ hk hu => by
      obtain ⟨d, Zk, fpk, hbd, hsr, hpr, hfn, hfk, hzk, hzl, hK, hL, hD⟩ := hJ
      obtain ⟨x, hx⟩ : ∃ x, l0[vs.length - 1 - k]? = some x := ⟨l0[vs.length - 1 - k]'(by omega), List.getElem?_eq_getElem (by omega)⟩
      have hxr : l0.reverse[k]? = some x := by
        rw [List.getElem?_reverse (by omega), ← hvl]
        exact hx
      rw [drop_cons hxr] at hbd
      simp only [backK] at hbd
      obtain ⟨pp, hpp, hbd⟩ := Option.bind_eq_some_iff.1 hbd
      have hlen2 : ((l0.reverse.drop (k + 1)).length : Int) = ((vs.length - 1 - k : Nat) : Int) := by simp; omega
      rw [hlen2] at hpp
      obtain ⟨o, ho2, hC⟩ := hrc _ _ _ _ hpp
      have hy := run_yield (P := cx.P) (args := #[.int .i64 ((vs.length - 1 - k : Nat) : Int), u]) hL (by rw [hrec]; show 2 = ps.size; rw [← Array.length_toList, hps]; rfl)
      have hpsa : ps = #[t1, t2] := by rw [← Array.toArray_toList (xs := ps), hps]
      have ht1 : t1 < a.tmps.size := by rw [hR.n]; exact hlt t1 (by simp)
      have ht2 : t2 < a.tmps.size := by rw [hR.n]; exact hlt t2 (by simp)
      have hne : t1 ≠ t2 := by simp at hnt; exact hnt.1.1
      have hZW : ∀ b, Z b → W.heap[b]? = w.heap[b]? := fun b hz => hKh hK b (hZlt b hz) (hZfp b hz)
      have hru : rep W Zk e x [u] := (hone2 _ x u hx hu).ext hZW hzk
      refine ⟨_, _, _, _, hy, trivial, fun c cs _ => ?_⟩
      obtain ⟨W', v, hA, hst⟩ := hC W Zk (.int .i64 ((vs.length - 1 - k : Nat) : Int) :: u :: us) fpk ((rec.params.zip #[.int .i64 ((vs.length - 1 - k : Nat) : Int), u]).foldl (fun t (x : Tmp × Value) => t.setIfInBounds x.1 x.2) rec.tmps) c cs hL
        ⟨[], fpk, rfl, ⟨rfl, rfl⟩, [], fpk, rfl, ⟨hru, rfl⟩, hsr⟩ hfn (fun b hb => ⟨(hfk b hb).1, (hfk b hb).2.1⟩) (fun b hb => (hzl b hb).1)
        (hR.gl.ext hZW hzk) (by rw [hrec, hpsa]; simp [hR.n])
        (fun j t v' hj hv' => by
          rw [hrec, hpsa]
          simp only [List.zip_toArray, List.zip_cons_cons, List.zip_nil_right, List.foldl_toArray', List.foldl_cons, List.foldl_nil, Array.getD_eq_getD_getElem?]
          cases j with
          | zero =>
            simp only [List.getElem?_cons_zero, Option.some.injEq] at hj hv'
            subst hj hv'
            rw [Array.getElem?_setIfInBounds_ne (Ne.symm hne), Array.getElem?_setIfInBounds_self_of_lt ht1]
            rfl
          | succ j => cases j with
            | zero =>
              simp only [List.getElem?_cons_succ, List.getElem?_cons_zero, Option.some.injEq] at hj hv'
              subst hj hv'
              simp [ht2]
            | succ j =>
              simp only [List.getElem?_cons_succ] at hj hv'
              have hm : t ∈ tms := List.mem_of_getElem? hj
              simp only [List.nodup_cons, List.mem_cons, not_or] at hnt
              rw [Array.getElem?_setIfInBounds_ne (fun e => hnt.2.1 (by rw [e]; exact hm)), Array.getElem?_setIfInBounds_ne (fun e => hnt.1.2 (by rw [e]; exact hm)), ← Array.getD_eq_getD_getElem?]
              rw [← hus, List.getElem?_map, hj] at hv'
              simpa using hv')
      obtain ⟨rvs, Z', rfp, pfp, e1, e2, ⟨f1, g1', e3, h31, f2, g2, e4, h41, hpost⟩, e5, e6, e7, e8, e9⟩ := hA
      obtain rfl : f1 = [] := h31
      obtain rfl : f2 = [] := h41
      simp only [List.nil_append] at e3 e4
      subst e3 e4
      obtain ⟨rfl, rfl⟩ : rvs = [] ∧ rfp = [] := by
        cases rvs with
        | nil => exact ⟨rfl, e2⟩
        | cons _ _ => exact e2.elim
      simp only [List.nil_append] at e5 e6
      rw [ho2] at hpost
      have hKW : Keep w W' (fun b => b ∈ fp0 ∨ w.heap.size ≤ b) := by
        refine ⟨e9.os.trans hK.os, e9.tape.trans hK.tape, e9.output.trans hK.output, Nat.le_trans hK.size e9.size, fun b hb hnb => ?_, fun b o hb ho => e9.other b o (hK.other b o hb ho) ho⟩
        refine (e9.block b (Nat.lt_of_lt_of_le hb hK.size) (fun hh => ?_)).trans (hK.block b hb hnb)
        rcases hh with hh | hh
        · exact hnb (hfk b hh).2.2
        · have := hK.size; omega
      have hWW : ∀ b, Zk b → W'.heap[b]? = W.heap[b]? := fun b hz => e9.block b (hzl b hz).1 (fun hh => hh.elim (fun h => (hfk b h).1 hz) (fun h => by have := (hzl b hz).1; omega))
      refine ⟨.returned (.bool true), W', ⟨rfl, nextA sh d pp, Z', _, hbd, next_rep hWW e7 hsh hsr hpost, ?_, e5, fun b hb => ⟨(e6 b hb).1, ?_, ?_⟩, fun b hb => e7 b (hzk b hb), fun b hb => ⟨(e8 b hb).1, ?_⟩, hKW, e9.other _ _ hL rfl, e9.other _ _ hD rfl⟩, comesIn_wide.2 hst⟩
      · rw [next_post hsh]
        exact post_trans hsh hpr hpost
      · exact shs_lt (next_rep hWW e7 hsh hsr hpost) b hb
      · rcases (e6 b hb).2 with hh | hh
        · exact (hfk b hh).2.2
        · exact .inr (Nat.le_trans hK.size hh)
      · rcases (e8 b hb).2 with hh | hh | hh
        · exact (hzl b hh).2
        · exact .inr (hfk b hh).2.2
        · exact .inr (.inr (Nat.le_trans hK.size hh)))
    hJ0
  -- the steps
  have he := run_enterLoop_outer (P := cx.P) (w := w) b.fn a.tmps ps asg body
  rw [← hrec, hW1, ← hb] at he
  have hres : (resolve a.eval (rangeCall g (w.heap.size + 1)) 0).run cx.P W1 = .ok { target := .fn (.func g1) #[.pointer (some ⟨B, 0, none⟩)], args := #[.func (.yield (w.heap.size + 1)) #[] #[]] } W1 := by
    simp only [resolve, hgval]
    simp [go_sem]
  have hinv2 : (invoke (.fn (.func g1) #[.pointer (some ⟨B, 0, none⟩)]) #[.func (.yield (w.heap.size + 1)) #[] #[]]).run cx.P W1 = .ok (.enter g1 #[.func (.yield (w.heap.size + 1)) #[] #[], .pointer (some ⟨B, 0, none⟩)]) W1 := by
    simp [invoke, go_sem, hinv]
  have st1 := stepR_rangeFunc (P := cx.P) (b := b) (a := a) (k := k) (cs := cs) (w := w) he hres hinv2
  obtain ⟨en, W2, fr, ⟨⟨v, rfl⟩, hJn⟩, hsteps, hfn, hleave⟩ := hcalls (b.atR { a with defers := [{ target := .collected w.heap.size, args := #[] }] ++ a.defers } (.inRangeFunc (w.heap.size + 1) :: k) :: cs)
  have st2 := step_leave_returned (P := cx.P) (c := b.atR { a with defers := [{ target := .collected w.heap.size, args := #[] }] ++ a.defers } (.inRangeFunc (w.heap.size + 1) :: k)) (cs := cs) hleave
  rw [finish_atR_inRangeFunc] at st2
  obtain ⟨d, Zk, fpk, hbd, hsr, hpr, hfn2, hfk, hzk, hzl, hK, hL, hD⟩ := hJn
  have hnil : l0.reverse.drop vs.length = [] := by rw [hvl]; simp
  rw [hnil] at hbd
  simp only [backK, Option.some.injEq] at hbd
  subst hbd
  have hpe : rec.pending = none := by rw [hrec]
  have hel : (Instr.endLoop (w.heap.size + 1)).run cx.P W2 = .ok none (W2.putObj (w.heap.size + 1) (.loop { rec with state := .exhausted })) := by
    rw [run_endLoop hL (by rw [hrec]; simp), hpe]
  have st3 := stepR_endRangeFunc (P := cx.P) (b := b) (a := { a with defers := [{ target := .collected w.heap.size, args := #[] }] ++ a.defers }) (k := k) (cs := cs) hel
  have hs4 : Same W2 (W2.putObj (w.heap.size + 1) (.loop { rec with state := .exhausted })) := Same.putObj hL rfl
  have hK4 : Keep w (W2.putObj (w.heap.size + 1) (.loop { rec with state := .exhausted })) (fun b => b ∈ fp0 ∨ w.heap.size ≤ b) := hK.putObj (by omega)
  obtain ⟨u, _, Z1, κ1, hx, hzo, _, hTR, _, _⟩ := main (.returned (tupV [])) (W2.putObj (w.heap.size + 1) (.loop { rec with state := .exhausted }))
    ⟨[], Zk, [], fpk, rfl, rfl, hpr.same (Same.refl _) hs4, by simpa using hfn2, fun b hb => ⟨(hfk b (by simpa using hb)).1, (hfk b (by simpa using hb)).2.2⟩, hzk, fun b hb => ⟨by simpa using (hzl b hb).1, (hzl b hb).2⟩, hK4⟩
  obtain ⟨Ds, hDs, hDn, hDD⟩ := hR.defers
  have hDlt : ∀ D ∈ Ds, D < w.heap.size := fun D hD => (Array.getElem?_eq_some_iff.1 (hDD D hD).2).1
  have hKo : Keep w (W2.putObj (w.heap.size + 1) (.loop { rec with state := .exhausted })) own := ⟨hK4.os, hK4.tape, hK4.output, hK4.size, fun b hb hnb => hK4.block b hb (fun hh => hh.elim (fun hm => hnb (by
    rw [← hLk] at hm
    obtain ⟨k', hk', v', hkv', hbv'⟩ := mem_kb.1 hm
    exact (hR.tr.away k' v' b (hlL k' hk') hkv' hbv').2)) (fun h => by omega)), hK4.other⟩
  refine ⟨_, { a with defers := [{ target := .collected w.heap.size, args := #[] }] ++ a.defers }, _, Z1, κ1, ⟨hTR, hR.n, fun t v ht => ⟨(hR.env t v ht).1, (hR.env t v ht).2.ext hx⟩, ⟨w.heap.size :: Ds, by rw [hDs]; rfl, List.nodup_cons.2 ⟨fun hm => by have := hDlt _ hm; omega, hDn⟩, fun D hD => ?_⟩, hR.gl.ext hx.heap hx.z, hR.keep.trans hKo, fun b hb => hx.z b (hR.z0 b hb), fun b hb => (hzo b hb).elim (hR.zown b) .inr, hup κ κ1 hx.k hR.home⟩, hκf, ?_⟩
  · rcases List.mem_cons.1 hD with rfl | hD
    · exact ⟨hR.keep.size, (World.putObj_heap_other (by omega)).trans ‹_›⟩
    · exact ⟨(hDD D hD).1, hK4.other D _ (hDD D hD).2 rfl⟩
  · exact Steps.trans (.one st1) (Steps.trans hsteps (Steps.trans (.one st2) (.one st3)))
end
end Go.Rf
end

section
/-! Rf: a run, and the contract of what it answers. -/
set_option autoImplicit false
namespace Go.Rf
open Go.RowKit

theorem dropTo_ok {id : Nat} {k : List Item} : ∀ {l m : List It}, dropTo id l = some m → exitTo id (l.map It.item ++ k) = some (m.map It.item ++ k)
  | [], _, h => by cases h
  | .inBlock n :: l, m, h => by
    simp only [dropTo] at h
    rcases beq_cases n id with ⟨h1, h2⟩ | ⟨h1, h2⟩
    · rw [h1] at h
      cases h
      simp [It.item, exitTo, h2]
    · rw [h1] at h
      have := dropTo_ok (k := k) (l := l) h
      simp [It.item, exitTo, h2, this]
  | .code _ :: l, m, h => dropTo_ok (l := l) h
  | .now _ _ _ :: l, m, h => dropTo_ok (l := l) h
  | .inLoop _ :: l, m, h => dropTo_ok (l := l) h

section
variable {cx : Cx} {w0 w w' : World} {Z0 Z Z' : Nat → Prop} {s : St} {a : Act} {κ κ' : Nat → Option Value}
/-- the end of a run: its marks are taken off -/
theorem fin_close (G : Good cx) {f : Nat} {fn : Func} {args : List Value} {fp : List Nat} {out : (cx.spec f).Out} (h : fin cx f fn.results.toList s = some out) (hR : RelF cx f w0 Z0 args fp s a w Z κ) :
    ∃ w'' v, Closes a.defers w w'' ∧ (results fn a.tmps).run cx.P w'' = .ok v w'' ∧ Ans cx f out w0 Z0 args fp (.returned v) w'' := by
  obtain ⟨Ds, hDs, hDn, hDD⟩ := hR.defers
  obtain ⟨w'', h1, h2, h3⟩ := closes_of hDn hDD hR.keep
  have hR2 := hR.sameW (ds := []) h2 h3 DefOk.nil
  obtain ⟨v, h4, h5⟩ := fin_ok G h hR2
  exact ⟨w'', v, by rw [hDs]; exact h1, h4, h5⟩
theorem runN_ok (G : Good cx) {f : Nat} {fn : Func} {args : List Value} {fp : List Nat} {call : (g : Nat) → (cx.spec g).In → Option (cx.spec g).Out} (hcall : ∀ g inp out, call g inp = some out → Contract cx g inp out)
    {ro : Option Nat} (hro : isRound f = ro.isSome) {rs : List ResultVar} (hrs : rs = match ro with | none => fn.results.toList | some _ => [])
    {prev : List It → St → Option (cx.spec f).Out} {out : (cx.spec f).Out} {rnds : (p : Nat) → List It → St → Option (cx.spec p).Out}
    (hprev : ∀ its s a w Z κ, prev its s = some out → RelF cx f w0 Z0 args fp s a w Z κ → Reach cx.P fn ro (Ans cx f out w0 Z0 args fp) its a w)
    (hrnds : ∀ (p : Nat) (its : List It) (s : St) (out : (cx.spec p).Out) (l : Nat) (fn : Func) (w0 : World) (Z0 : Nat → Prop) (args : List Value) (fp : List Nat) (a : Act) (w : World) (Z : Nat → Prop) (κ : Nat → Option Value), isRound p = true → rnds p its s = some out → RelF cx p w0 Z0 args fp s a w Z κ → Reach cx.P fn (some l) (Ans cx p out w0 Z0 args fp) its a w) :
    ∀ (n : Nat) (its : List It) (s : St) (a : Act) (w : World) (Z : Nat → Prop) (κ : Nat → Option Value), runN cx f rs prev rnds call n its s = some out → RelF cx f w0 Z0 args fp s a w Z κ → Reach cx.P fn ro (Ans cx f out w0 Z0 args fp) its a w := by
  have ho : ∀ b, w0.heap.size ≤ b → (b ∈ fp ∨ w0.heap.size ≤ b) := fun _ h => .inr h
  intro n
  induction n with
  | zero => intro its s a w Z κ h; cases h
  | succ n ih =>
    intro its s a w Z κ h hR
    have reg : ∀ {id : Nat} {ops : Array Oper} {draw : Bool} {l : List It} {i0 : It}, i0.item = .code (.region id ops draw) → (bif isRound f && !(noDefer ops.toList) then none else region cx call ops draw s (fun s => runN cx f rs prev rnds call n l s)) = some out →
        Reach cx.P fn ro (Ans cx f out w0 Z0 args fp) (i0 :: l) a w := by
      intro id ops draw l i0 hi hr b k cs hb hk
      have hd : ro = none ∨ noDefer ops.toList = true := by
        cases ro with
        | none => exact .inl rfl
        | some l =>
          rw [hro] at hr
          cases hn : noDefer ops.toList with
          | true => exact .inr rfl
          | false => rw [hn] at hr; cases hr
      have hr2 : region cx call ops draw s (fun s => runN cx f rs prev rnds call n l s) = some out := by
        cases hb : (isRound f && !(noDefer ops.toList)) with
        | true => rw [hb] at hr; cases hr
        | false => rw [hb] at hr; exact hr
      obtain ⟨s', a', w', Z', κ', h1, h2, h3⟩ := regionR_ok (id := id) G up_home ho hcall hd hr2 hR b hb (l.map It.item ++ k) cs
      obtain ⟨m, h4, h5⟩ := ih l s' a' w' Z' κ' h2 h1 b k cs hb hk
      refine ⟨m, h4, ?_⟩
      rw [List.map_cons, hi]
      exact h3.trans h5
    cases its with
    | nil =>
      intro b k cs hb hk
      cases ro with
      | none =>
        obtain rfl := hk rfl
        subst hrs
        obtain ⟨w'', v, h0, h1, h2⟩ := fin_close G h hR
        exact ⟨_, ⟨a, w, w'', _, v, h0, h1, h2, rfl⟩, .one (stepR_end hb)⟩
      | some l =>
        subst hrs
        obtain ⟨v, h1, h2⟩ := fin_ok (fn := { fn with results := #[] }) G h hR
        exact ⟨_, ⟨a, w, v, h2, rfl⟩, .refl _ _⟩
    | cons it l =>
      cases it with
      | now id ops draw =>
        simp only [runN] at h
        exact reg (id := id) rfl h
      | inLoop c =>
        simp only [runN] at h
        exact Reach.step (its' := .code c :: .inLoop c :: l) (fun b k cs _ => .one stepR_inLoop) (ih _ _ _ _ _ _ h hR)
      | inBlock id =>
        simp only [runN] at h
        exact Reach.step (its' := l) (fun b k cs _ => .one stepR_inBlock) (ih _ _ _ _ _ _ h hR)
      | code c =>
        cases c with
        | skip =>
          simp only [runN] at h
          exact Reach.step (its' := l) (fun b k cs _ => .one stepR_skip) (ih _ _ _ _ _ _ h hR)
        | ret =>
          simp only [runN] at h
          cases ro with
          | none =>
            rw [show isRound f = false from hro] at h
            subst hrs
            obtain ⟨w'', v, h0, h1, h2⟩ := fin_close G h hR
            intro b k cs hb hk
            exact ⟨_, ⟨a, w, w'', _, v, h0, h1, h2, rfl⟩, .one (stepR_ret hb)⟩
          | some l =>
            rw [show isRound f = true from hro] at h
            cases h
        | seq x y =>
          simp only [runN] at h
          exact Reach.step (its' := .code x :: .code y :: l) (fun b k cs _ => .one stepR_seq) (ih _ _ _ _ _ _ h hR)
        | cond c x y =>
          simp only [runN] at h
          obtain ⟨t, e, h1⟩ := boolK_some h
          have hv := opAV_ok hR c
          rw [e] at hv
          have hv1 : [a.eval c] = [.bool t] := hv
          have hc : a.eval c = .bool t := (List.cons.inj hv1).1
          cases t with
          | true =>
            rw [if_pos rfl] at h1
            exact Reach.step (its' := .code x :: l) (fun b k cs _ => .one (stepR_cond hc)) (ih _ _ _ _ _ _ h1 hR)
          | false =>
            rw [if_neg (by simp)] at h1
            exact Reach.step (its' := .code y :: l) (fun b k cs _ => .one (stepR_cond hc)) (ih _ _ _ _ _ _ h1 hR)
        | block id c =>
          simp only [runN] at h
          exact Reach.step (its' := .code c :: .inBlock id :: l) (fun b k cs _ => .one stepR_block) (ih _ _ _ _ _ _ h hR)
        | loop c =>
          simp only [runN] at h
          exact Reach.step (its' := .code c :: .inLoop c :: l) (fun b k cs _ => .one stepR_loop) (ih _ _ _ _ _ _ h hR)
        | exit id =>
          simp only [runN] at h
          split at h
          · rename_i m hm
            exact Reach.step (its' := m) (fun b k cs _ => .one (stepR_exit (dropTo_ok hm))) (ih _ _ _ _ _ _ h hR)
          · cases h
        | region id ops draw =>
          simp only [runN] at h
          split at h
          · rename_i lc hcut
            obtain ⟨hk, h1⟩ := cond_some h
            obtain ⟨x, hx, h2⟩ := Option.bind_eq_some_iff.1 h1
            obtain ⟨Z', κ', hR'⟩ := cut_ok hR hk hx
            exact Reach.step (its' := .now id ops draw :: l) (fun b k cs _ => .refl _ _) (hprev _ _ _ _ _ _ h2 hR')
          · exact reg (id := id) rfl h
        | rangeFunc g ps asg body =>
          simp only [runN] at h
          intro b k cs hb hk
          have hf : isRound f = false := by
            cases hf : isRound f with
            | false => rfl
            | true => unfold rangeK at h; rw [hf] at h; cases h
          obtain rfl : ro = none := by cases ro with
            | none => rfl
            | some l => rw [hf] at hro; cases hro
          obtain ⟨tb', a', w', Z', κ', h1, h2, h3⟩ := range_ok G hcall hrnds ho up_home h hR b hb (l.map It.item ++ k) cs
          obtain ⟨m, h4, h5⟩ := ih l _ a' w' Z' κ' h2 h1 b k cs hb hk
          exact ⟨m, h4, h3.trans h5⟩
        | _ => simp [runN] at h
theorem ShsRep.length : ∀ {ss : List Sh} {x : Shs ss} {vs : List Value} {fp : List Nat}, ShsRep w Z ss x vs fp → vs.length = ss.length
  | [], _, [], _, _ => rfl
  | _ :: _, _, _ :: _, _, ⟨_, _, _, _, h⟩ => by simp [ShsRep.length h]
  | [], _, _ :: _, _, h => h.elim
  | _ :: _, _, [], _, h => h.elim
theorem count_length : ∀ (n i : Nat), (count i n).length = n
  | 0, _ => rfl
  | n + 1, i => by simp [count, count_length n]
theorem count_at : ∀ (n i j t : Nat), (count i n)[j]? = some t → t = i + j ∧ j < n
  | 0, i, j, t, h => by simp [count] at h
  | n + 1, i, 0, t, h => by simp [count] at h; omega
  | n + 1, i, j + 1, t, h => by
    have := count_at n (i + 1) j t (by simpa [count] using h)
    omega
/-- WHAT A RUN ANSWERS IS TRUE OF THE MACHINE. hext: what is told of functions that are not run. -/
theorem run_ok (G : Good cx) (hext : ∀ f g inp out, cx.ext f = some g → g inp = some out → Contract cx f inp out) : ∀ k,
    (∀ f inp out, callF cx k f inp = some out → Contract cx f inp out) ∧
    (∀ (f : Nat) (fn : Func) (w0 : World) (Z0 : Nat → Prop) (args : List Value) (fp : List Nat) (out : (cx.spec f).Out) (its : List It) (s : St) (a : Act) (w : World) (Z : Nat → Prop) (κ : Nat → Option Value),
      isRound f = false → runF cx k f fn.results.toList its s = some out → RelF cx f w0 Z0 args fp s a w Z κ → Reach cx.P fn none (Ans cx f out w0 Z0 args fp) its a w) ∧
    (∀ (p : Nat) (its : List It) (s : St) (out : (cx.spec p).Out) (l : Nat) (fn : Func) (w0 : World) (Z0 : Nat → Prop) (args : List Value) (fp : List Nat) (a : Act) (w : World) (Z : Nat → Prop) (κ : Nat → Option Value),
      isRound p = true → runF cx k p [] its s = some out → RelF cx p w0 Z0 args fp s a w Z κ → Reach cx.P fn (some l) (Ans cx p out w0 Z0 args fp) its a w) := by
  intro k
  induction k with
  | zero => exact ⟨fun f inp out h => by simp [callF] at h, fun f fn w0 Z0 args fp out its s a w Z κ _ h => by simp [runF] at h, fun p its s out l fn w0 Z0 args fp a w Z κ _ h => by simp [runF] at h⟩
  | succ k ih =>
    obtain ⟨ih1, ih2, ih3⟩ := ih
    refine ⟨?_, ?_, ?_⟩
    · intro f inp out h
      simp only [callF] at h
      split at h
      · rename_i g hg
        exact hext f g inp out hg h
      · split at h
        · rename_i fn hfn
          split at h
          · rename_i body hbody
            obtain ⟨hb, h1⟩ := cond_some h
            simp only [Bool.and_eq_true, Bool.not_eq_true'] at hb
            cases hrt : cx.rt f with
            | some l => rw [hrt] at h1; cases h1
            | none =>
            rw [hrt] at h1
            simp only at h1
            intro w Z args fp hrep hnd hfp hZ hGL
            have hlen := hrep.length
            have hle := ble_iff.1 hb.1.2
            have htm : cx.tms f = count 0 (cx.spec f).ps.length := by unfold Cx.tms; rw [hrt]
            have hts : (args.toArray ++ Array.replicate (fn.ntmps - args.toArray.size) Go.undef).size = fn.ntmps := by
              simp only [Array.size_append, List.size_toArray, Array.size_replicate, hlen]
              omega
            obtain ⟨κ', hL, _, hn, hhome⟩ := mkP_laid (ts := cx.tms f) (own := fun b => b ∈ fp ∨ w.heap.size ≤ b) (g := fun t => (args.toArray ++ Array.replicate (fn.ntmps - args.toArray.size) Go.undef).getD t Go.undef)
              (st := ⟨[], ⟨[], []⟩, fn.ntmps⟩) (κ := fun _ => none) ⟨empty_tr hZ, fun t v h => by cases h⟩ hrep (fun j t v ht hj => by
                have hlt : j < args.length := (List.getElem?_eq_some_iff.1 hj).1
                have hlt2 : j < args.toArray.size := by simpa using hlt
                rw [htm] at ht
                obtain ⟨rfl, _⟩ := count_at _ _ _ _ ht
                simp only [Nat.zero_add, Array.getD_eq_getD_getElem?]
                rw [Array.getElem?_append_left hlt2]
                simp [hj]) hnd (fun k u b hl => by rcases hl with ⟨r, hr⟩ | ⟨cs, hc⟩ <;> contradiction) (fun b hb => ⟨(hfp b hb).1, .inl hb⟩) (nodup_iff.1 hb.1.1) (fun k _ => rfl) (by rw [htm, count_length]) (fun t ht => by
                rw [htm] at ht
                obtain ⟨j, hj⟩ := List.getElem?_of_mem ht
                have := count_at _ _ _ _ hj
                show t < fn.ntmps
                omega)
            have hR : RelF cx f w Z args fp (mkP (cx.tms f) (cx.spec f).ps inp ⟨[], ⟨[], []⟩, fn.ntmps⟩) { tmps := args.toArray ++ Array.replicate (fn.ntmps - args.toArray.size) Go.undef, defers := [] } w Z κ' :=
              ⟨hL.tr, by rw [hn]; exact hts, hL.env, DefOk.nil, hGL, Keep.refl, fun _ h => h, fun _ h => .inl h, hhome⟩
            have hreach := ih2 f fn w Z args fp out _ _ _ _ _ _ hb.2 h1 hR
            intro cs
            let b : Frame := { (default : Frame) with fn := f % 1000, kind := .normal }
            have henter : Frame.enter cx.P (f % 1000) args.toArray .normal = b.atR { tmps := args.toArray ++ Array.replicate (fn.ntmps - args.toArray.size) Go.undef, defers := [] } [.code body] := by
              simp [Frame.enter, Frame.atR, hfn, hbody, b]
              rfl
            obtain ⟨m, ⟨a', w', w'', todo, v, h4, h5, h6, rfl⟩, h7⟩ := hreach b [] cs rfl (fun _ => rfl)
            refine ⟨.returned v, w'', { { b.atR a' todo with mode := .returning } with defers := [] }, h6, ?_, rfl, rfl, rfl, rfl, fn, hfn, h5⟩
            rw [henter]
            exact Steps.trans h7 (leave_steps h4 rfl rfl)
          · cases h
        · cases h
    · intro f fn w0 Z0 args fp out its s a w Z κ hf h hR
      simp only [runF] at h
      exact runN_ok G ih1 (ro := none) hf rfl (fun its s a w Z κ h hR => ih2 f fn w0 Z0 args fp out its s a w Z κ hf h hR) ih3 stride its s a w Z κ h hR
    · intro p its s out l fn w0 Z0 args fp a w Z κ hp h hR
      simp only [runF] at h
      exact runN_ok G ih1 (ro := some l) hp rfl (fun its s a w Z κ h hR => ih3 p its s out l fn w0 Z0 args fp a w Z κ hp h hR) ih3 stride its s a w Z κ h hR
end
end Go.Rf
end

section
/-! Rf: tables that are checked. -/
set_option autoImplicit false
namespace Go.Rf
open Go.RowKit

def isZeroC : T → Value → Bool
  | .int k, .int k' n => decide (k = k') && n == 0
  | .bool, .bool b => !b
  | .str, .string s => s.data.toList.isEmpty
  | .err, .nilIface => true
  | .sl _, .slice none 0 0 => true
  | _, _ => false
def areZero : List T → List Value → Bool
  | [], [] => true
  | t :: l, v :: vs => isZeroC t v && areZero l vs
  | _, _ => false
def isZeroV (i : TI) (v : Value) : Bool := match i.agg, i.cells, v with
  | false, [t], v => isZeroC t v
  | true, l, .agg vs => areZero l vs.toList
  | _, _, _ => false
theorem isZeroC_ok : ∀ {t : T} {v : Value}, isZeroC t v = true → v = zeroC t
  | .int k, .int k' n, h => by
    simp only [isZeroC, Bool.and_eq_true, decide_eq_true_eq, beq_iff_eq] at h
    rw [h.1, h.2]
    rfl
  | .bool, .bool b, h => by
    cases b with
    | false => rfl
    | true => cases h
  | .str, .string ⟨⟨l⟩⟩, h => by
    cases l with
    | nil => rfl
    | cons a l => cases h
  | .sl _, .slice none 0 0, _ => rfl
  | .err, .nilIface, _ => rfl
theorem areZero_ok : ∀ {l : List T} {vs : List Value}, areZero l vs = true → vs = l.map zeroC
  | [], [], _ => rfl
  | t :: l, v :: vs, h => by
    simp only [areZero, Bool.and_eq_true] at h
    rw [isZeroC_ok h.1, areZero_ok h.2]
    rfl
  | [], _ :: _, h => by cases h
  | _ :: _, [], h => by cases h
theorem isZeroV_ok {i : TI} {v : Value} (h : isZeroV i v = true) : v = zeroV i := by
  unfold isZeroV at h
  unfold zeroV
  split at h
  · rename_i h1 h2
    rw [h1, h2]
    exact isZeroC_ok h
  · rename_i h1
    rw [h1]
    simp only
    rw [← areZero_ok h]
  · cases h
def isU8 : Option TypeDesc → Bool
  | some (.int .u8) => true
  | _ => false
def isScal (P : Program) : T → TypeDesc → Bool
  | .int k, .int k' => decide (k' = k)
  | .bool, .bool => true
  | .str, .string => true
  | .err, .interface _ => true
  | .sl e, .slice t => !(decide (e = .int .u8)) || isU8 (P.underlying t)
  | _, _ => false
theorem isU8_ok : ∀ {d : Option TypeDesc}, isU8 d = true → d = some (.int .u8)
  | some (.int .u8), _ => rfl
theorem isScal_ok {P : Program} : ∀ {c : T} {d : TypeDesc}, isScal P c d = true → scalOk P c d
  | .int k, .int k', h => by
    simp only [isScal, decide_eq_true_eq] at h
    rw [h]
    rfl
  | .bool, .bool, _ => rfl
  | .str, .string, _ => rfl
  | .err, .interface ms, _ => ⟨ms, rfl⟩
  | .sl e, .slice t, h => by
    refine ⟨t, rfl, fun he => ?_⟩
    simp only [isScal, he, decide_true, Bool.not_true, Bool.false_or] at h
    exact isU8_ok h
def isField (P : Program) (f : Field) (g : Nat × Nat × Bool) : Bool := Nat.beq f.offset g.1 && (match P.info? f.type with
    | some fi => Nat.beq fi.size g.2.1
    | none => false) && (match P.underlying f.type with
    | some d => aggD d == g.2.2
    | none => false)
def areFields (P : Program) : List Field → List (Nat × Nat × Bool) → Bool
  | [], [] => true
  | f :: l, g :: m => isField P f g && areFields P l m
  | _, _ => false
theorem areFields_ok {P : Program} : ∀ {l : List Field} {m : List (Nat × Nat × Bool)}, areFields P l m = true → All2 (fieldOk P) l m
  | [], [], _ => trivial
  | f :: l, g :: m, h => by
    simp only [areFields, Bool.and_eq_true] at h
    refine ⟨?_, areFields_ok h.2⟩
    have h1 := h.1
    unfold isField at h1
    simp only [Bool.and_eq_true] at h1
    obtain ⟨⟨h2, h3⟩, h4⟩ := h1
    refine ⟨beq_eq h2, ?_, ?_⟩
    · split at h3
      · rename_i fi hfi
        exact ⟨fi, hfi, beq_eq h3⟩
      · cases h3
    · split at h4
      · rename_i d hd
        exact ⟨d, hd, by simpa using h4⟩
      · cases h4
  | [], _ :: _, h => by cases h
  | _ :: _, [], h => by cases h
def isTy (P : Program) (t : TypeId) (i : TI) : Bool := (match P.info? t with
    | some f => Nat.beq f.size i.cells.length && Nat.beq f.bytes i.bytes && (match f.zero with
      | some v => isZeroV i v
      | none => false)
    | none => false) && (match P.underlying t with
    | some d => (aggD d == i.agg) && (match i.agg, i.cells, i.fields, d with
      | false, [c], [], d => isScal P c d
      | true, _, m, .struct fs => areFields P fs.toList m
      | _, _, _, _ => false)
    | none => false) && i.cells.all T.scal
theorem isTy_ok {P : Program} {t : TypeId} {i : TI} (h : isTy P t i = true) : TyOk P t i := by
  unfold isTy at h
  simp only [Bool.and_eq_true] at h
  obtain ⟨⟨h1, h2⟩, h3⟩ := h
  split at h2
  · rename_i d hd
    simp only [Bool.and_eq_true, beq_iff_eq] at h2
    obtain ⟨h4, h5⟩ := h2
    refine ⟨?_, ⟨d, hd, h4, ?_⟩, h3, ?_⟩
    · split at h1
      · rename_i f hf
        simp only [Bool.and_eq_true] at h1
        obtain ⟨⟨h6, h7⟩, h8⟩ := h1
        refine ⟨f, hf, beq_eq h6, beq_eq h7, ?_⟩
        split at h8
        · rename_i v hv
          rw [hv, isZeroV_ok h8]
        · cases h8
      · cases h1
    · split at h5
      · rename_i c ha hc hm
        exact ⟨fun _ => ⟨c, hc, isScal_ok h5⟩, fun h => by rw [ha] at h; cases h⟩
      · rename_i fs ha
        exact ⟨fun h => (by rw [ha] at h; cases h), fun _ => ⟨fs, rfl, areFields_ok h5⟩⟩
      · cases h5
    · intro ha
      split at h5
      · rename_i hm
        exact hm
      · rename_i ha'
        rw [ha] at ha'
        cases ha'
      · cases h5
  · cases h2
def isEl (P : Program) (t e : TypeId) : Bool := match P.underlying t with
  | some (.slice e') => Nat.beq e' e
  | _ => false
def isIfc (P : Program) (t : TypeId) : Bool := match P.underlying t with
  | some (.interface _) => true
  | _ => false
def isKnown (P : Program) (g : Nat) : Bool := Nat.blt g 1000 && (match P.funcs[g]? with
  | some fn => fn.body.isSome && !(fn.name == "runtime.NumGoroutine")
  | none => false)
/-- a field's type is that of one cell that can be compared -/
def isSc (P : Program) (ty : TypeId) (t : T) : Bool := match t, P.underlying ty with
  | .int _, some (.int _) => true
  | .bool, some .bool => true
  | .str, some .string => true
  | _, _ => false
def scalF (P : Program) : Nat → List Field → List T → Bool
  | _, [], [] => true
  | i, f :: fs, t :: ts => Nat.beq f.offset i && !(f.name == "_") && isSc P f.type t && scalF P (i + 1) fs ts
  | _, _, _ => false
def isEq (P : Program) (t : TypeId) (ts : List T) : Bool := match P.underlying t with
  | some (.struct fs) => !P.stoodInHeld t && !(P.eqGuardType P.depth t) && scalF P 0 fs.toList ts
  | _ => false
theorem part_sc {P : Program} {w : World} {ty : TypeId} {t : T} (h : isSc P ty t = true) {xs : Array Value} {i : Nat} {u : Value} (hu : xs[i]? = some u) : (part ty xs i).run P w = .ok u w := by
  have key : ∀ d, P.underlying ty = some d → aggD d = false → (part ty xs i).run P w = .ok u w := fun d h1 h2 => by
    unfold part
    rw [Sem.run_bind, run_isAgg h1, h2]
    simp [hu]
  unfold isSc at h
  split at h
  · rename_i h1; exact key _ h1 rfl
  · rename_i h1; exact key _ h1 rfl
  · rename_i h1; exact key _ h1 rfl
  · cases h
/-- one field -/
theorem eq_sc {P : Program} {w : World} {Z : Nat → Prop} {κ : Nat → Option Value} {ty : TypeId} {t : T} (h : isSc P ty t = true) {x : t.D} {c : C} {l m : List C} {b : Bool} {u v : Value} (hq : aggEq (.val t x :: l) (c :: m) = some b) (hu : crep w Z κ (.val t x) u) (hv : crep w Z κ c v) :
    ∃ p q, (Op.equalIn 9999 ty u v).run P w = .ok p w ∧ aggEq l m = some q ∧ b = (p && q) := by
  unfold isSc at h
  split at h
  · rename_i k k' h1
    match c, hq, hv with
    | .val (.int k2) y, hq, hv =>
      simp only [aggEq] at hq
      split at hq
      · rename_i e
        subst e
        split at hq
        · rename_i q hq2
          obtain rfl := Option.some.inj hq
          rw [crep_int (w := w) (Z := Z) (κ := κ) hu, crep_int (w := w) (Z := Z) (κ := κ) hv]
          exact ⟨_, q, run_equalIn_int w 9998 ty k k' _ _ h1, hq2, rfl⟩
        · cases hq
      · cases hq
  · rename_i h1
    match c, hq, hv with
    | .val .bool y, hq, hv =>
      simp only [aggEq] at hq
      split at hq
      · rename_i q hq2
        obtain rfl := Option.some.inj hq
        rw [crep_bool (w := w) (Z := Z) (κ := κ) hu, crep_bool (w := w) (Z := Z) (κ := κ) hv]
        exact ⟨_, q, run_equalIn_bool' w 9998 ty _ _ h1, hq2, rfl⟩
      · cases hq
  · rename_i h1
    match c, hq, hv with
    | .val .str y, hq, hv =>
      simp only [aggEq] at hq
      split at hq
      · rename_i q hq2
        obtain rfl := Option.some.inj hq
        rw [crep_str (w := w) (Z := Z) (κ := κ) hu, crep_str (w := w) (Z := Z) (κ := κ) hv]
        refine ⟨_, q, run_equalIn_string w 9998 ty _ _ h1, hq2, ?_⟩
        rw [beq_toListBytes]
      · cases hq
  · cases h
theorem eqFields_ok {P : Program} {w : World} {Z : Nat → Prop} {κ : Nat → Option Value} {xs ys : Array Value} : ∀ {fs : List Field} {ts : List T} {i : Nat} {l m : List C} {us vs : List Value} {b : Bool}, scalF P i fs ts = true → valsAre ts l = true → aggEq l m = some b →
    All2 (crep w Z κ) l us → All2 (crep w Z κ) m vs → (∀ j u, us[j]? = some u → xs[i + j]? = some u) → (∀ j u, vs[j]? = some u → ys[i + j]? = some u) → (Op.eqFields 9999 xs ys fs).run P w = .ok b w
  | [], [], i, [], [], us, vs, b, _, _, hq, _, _, _, _ => by
    obtain rfl := Option.some.inj (show some true = some b from hq)
    simp [Op.eqFields]
  | f :: fs, t :: ts, i, .val t' x :: l, c :: m, u :: us, v :: vs, b, hs, hva, hq, hl, hm, hx, hy => by
    simp only [scalF, Bool.and_eq_true] at hs
    obtain ⟨⟨⟨h1, h2⟩, h3⟩, h4⟩ := hs
    simp only [valsAre, Bool.and_eq_true, decide_eq_true_eq] at hva
    obtain ⟨rfl, hva⟩ := hva
    have ho : f.offset = i := Nat.eq_of_beq_eq_true h1
    have hn : f.name ≠ "_" := by simpa using h2
    obtain ⟨p, q, e1, e2, rfl⟩ := eq_sc h3 hq hl.1 hm.1
    have hu : (part f.type xs f.offset).run P w = .ok u w := part_sc h3 (by rw [ho]; exact hx 0 u rfl)
    have hv : (part f.type ys f.offset).run P w = .ok v w := part_sc h3 (by rw [ho]; exact hy 0 v rfl)
    have ih := eqFields_ok (xs := xs) (ys := ys) h4 hva e2 hl.2 hm.2 (fun j z hz => by have := hx (j + 1) z hz; rw [show i + 1 + j = i + (j + 1) by omega]; exact this) (fun j z hz => by have := hy (j + 1) z hz; rw [show i + 1 + j = i + (j + 1) by omega]; exact this)
    rw [Op.eqFields]
    simp only [if_pos hn, Sem.run_bind, hu, hv, e1, Result.andThen_ok]
    cases p
    · simp
    · simpa using ih
  | _ :: _, _ :: _, _, .val t _ :: _, [], _, _, _, _, _, hq, _, _, _, _ => by cases t <;> simp [aggEq] at hq
theorem isEq_ok {P : Program} {t : TypeId} {ts : List T} (h : isEq P t ts = true) (w : World) (Z : Nat → Prop) (κ : Nat → Option Value) (l m : List C) (b : Bool) (xs ys : List Value) (hva : valsAre ts l = true) (hq : aggEq l m = some b) (hl : All2 (crep w Z κ) l xs) (hm : All2 (crep w Z κ) m ys) :
    (Op.equal t (.agg xs.toArray) (.agg ys.toArray)).run P w = .ok b w ∧ P.eqGuardType P.depth t = false := by
  unfold isEq at h
  split at h
  · rename_i fs hfs
    simp only [Bool.and_eq_true, Bool.not_eq_true'] at h
    refine ⟨?_, h.1.2⟩
    have hf : P.fieldsOf t = fs := by simp [Program.fieldsOf, hfs]
    have h9 : Op.equal t (.agg xs.toArray) (.agg ys.toArray) = Op.equalIn (9999 + 1) t (.agg xs.toArray) (.agg ys.toArray) := rfl
    rw [h9, run_equalIn_struct (P := P) w 9999 t _ _ (by rw [hf]; exact hfs) h.1.1, hf]
    exact eqFields_ok h.2 hva hq hl hm (fun j u hu => by simpa using hu) (fun j u hu => by simpa using hu)
  · cases h
/-- the tables of a seat -/
structure Tabs where
  ty : List (Nat × TI)
  el : List (Nat × Nat)
  ifcs : List Nat
  known : List Nat
  spec : List (Nat × Spec)
  cut : List (Nat × List (Nat × List (Nat × Sh)))
  eqs : List (Nat × List T)
  rt : List (Nat × List Nat) := []
  rng : List (Nat × List (Nat × Nat)) := []
  back : List (Nat × Nat × Nat) := []
def rngOf (l : List (Nat × List (Nat × Nat))) (f n : Nat) : Option Nat := match look l f with
  | some s => look s n
  | none => none
def isIter (l : List (Nat × Nat × Nat)) (g : Nat) : Bool := match l with
  | [] => false
  | (_, g1, _) :: l => bif Nat.beq g1 g then true else isIter l g
def Tabs.ok (P : Program) (T : Tabs) : Bool :=
  T.ty.all (fun p => isTy P p.1 p.2) && T.el.all (fun p => isEl P p.1 p.2) && T.ifcs.all (isIfc P) && T.known.all (isKnown P) && P.follows .mixedOrders && T.eqs.all (fun p => isEq P p.1 p.2)
def specOf (l : List (Nat × Spec)) (f : Nat) : Spec := match look l f with
  | some s => s
  | none => ⟨[], []⟩
def cutOf (l : List (Nat × List (Nat × List (Nat × Sh)))) (f n : Nat) : Option (List (Nat × Sh)) := match look l f with
  | some s => look s n
  | none => none
/-- what is told of structs that are compared, of variables that stay -/
def Tabs.cx (P : Program) (T : Tabs) (ext : (f : Nat) → Option ((specOf T.spec f).In → Option (specOf T.spec f).Out)) (glob : Nat → Option Gv) (objs : Nat → Option (Array Value → Prop)) : Cx :=
  { P := P, ty := look T.ty, el := look T.el, spec := specOf T.spec, ext := ext, glob := glob, objs := objs, eqs := look T.eqs, ifcs := fun t => inl t T.ifcs, known := fun g => inl g T.known, cut := cutOf T.cut, rt := look T.rt, rng := rngOf T.rng, back := look T.back, iter := isIter T.back }
theorem run_known {P : Program} {g : Nat} (h : isKnown P g = true) : g < 1000 ∧ ∀ args w, (callFunc g args).run P w = .ok (.enter g args) w := by
  unfold isKnown at h
  simp only [Bool.and_eq_true] at h
  refine ⟨Nat.lt_of_lt_of_le (Nat.lt_succ_self _) (Nat.le_of_ble_eq_true h.1), fun args w => ?_⟩
  have h2 := h.2
  split at h2
  · rename_i fn hfn
    simp only [Bool.and_eq_true, Bool.not_eq_true'] at h2
    have hb : ¬ fn.body = none := by
      intro hh
      rw [hh] at h2
      cases h2.1
    have hn : ¬ fn.name = "runtime.NumGoroutine" := by
      intro hh
      rw [hh] at h2
      simp at h2
    simp [callFunc, hfn, hn, hb]
  · cases h2
/-- what is to be shown of slices.Backward -/
def BacksOk (P : Program) : List (Nat × Nat × Nat) → Prop
  | [] => True
  | (g, g1, t) :: l => (BackOk P g g1 t ∧ IterOk P g1 ∧ isKnown P g1 = true) ∧ BacksOk P l
theorem backs_back {P : Program} {g : Nat} {q : Nat × Nat} : ∀ {l : List (Nat × Nat × Nat)}, BacksOk P l → look l g = some q → BackOk P g q.1 q.2
  | [], _, h => by cases h
  | (g', g1, t) :: l, hb, h => by
    rw [look_cons] at h
    split at h
    · rename_i e
      subst e
      cases h
      exact hb.1.1
    · exact backs_back hb.2 h
theorem backs_iter {P : Program} {g : Nat} : ∀ {l : List (Nat × Nat × Nat)}, BacksOk P l → isIter l g = true → IterOk P g ∧ isKnown P g = true
  | [], _, h => by cases h
  | (g', g1, t) :: l, hb, h => by
    unfold isIter at h
    rcases beq_cases g1 g with ⟨h1, h2⟩ | ⟨h1, h2⟩
    · subst h2
      exact hb.1.2
    · rw [h1] at h
      exact backs_iter hb.2 h
theorem Tabs.good {P : Program} {T : Tabs} (h : T.ok P = true) (hbk : BacksOk P T.back := by exact trivial) {ext : (f : Nat) → Option ((specOf T.spec f).In → Option (specOf T.spec f).Out)} {glob : Nat → Option Gv} {objs : Nat → Option (Array Value → Prop)} : Good (T.cx P ext glob objs) := by
  unfold Tabs.ok at h
  simp only [Bool.and_eq_true] at h
  obtain ⟨⟨⟨⟨⟨h1, h2⟩, h3⟩, h4⟩, h5⟩, h6⟩ := h
  refine ⟨fun g q hg => backs_back hbk hg, fun g hg => ⟨(backs_iter hbk hg).1, (run_known (backs_iter hbk hg).2).2⟩, ?_, ?_, ?_, h5, ?_, fun t ts ht => isEq_ok (List.all_eq_true.1 h6 (t, ts) (look_mem ht))⟩
  · intro t ht
    have := List.all_eq_true.1 h3 t (inl_iff.1 ht)
    unfold isIfc at this
    split at this
    · rename_i ms hms
      exact ⟨ms, hms⟩
    · cases this
  · intro t i ht
    exact isTy_ok (List.all_eq_true.1 h1 (t, i) (look_mem ht))
  · intro t e ht
    have := List.all_eq_true.1 h2 (t, e) (look_mem ht)
    unfold isEl at this
    split at this
    · rename_i e' he'
      have h6 := beq_eq this
      simp only at h6
      rw [← h6]
      exact he'
    · cases this
  · intro g hg
    exact run_known (List.all_eq_true.1 h4 g (inl_iff.1 hg))
end Go.Rf
end

section
/-! Rf: whatever reads as data of a type is told in lists. -/
set_option autoImplicit false
namespace Go.Rf
open Go.RowKit Go.Deep Go.WideShapes Go.ChangeShapes

def rowT (cells : List T) : T := cells.foldr .pair .unit
/-- numbers within their kind, no string and no slice too long -/
def wfT : (t : T) → t.D → Prop
  | .unit, _ => True
  | .int k, n => (Lit.int k n).wf = true
  | .bool, _ => True
  | .str, s => s.size ≤ maxLen
  | .err, _ => True
  | .ref _, _ => True
  | .sl e, l => l.length ≤ maxLen ∧ ∀ y ∈ l, wfT e y
  | .pair a b, x => wfT a x.1 ∧ wfT b x.2
def Here (w : World) : Nat → Prop := fun b => b < w.heap.size
def Opens (P : Program) (t : TypeId) (T : T) : Prop :=
  ∀ (H : Type) (enc : TypeId × Value → H) (w : World) (base : Nat) (spare : Nat → Bool) (held : Bool) (fuel : Nat) (cs : List Value) (x : DataW H × List MemPlace),
    DataW.trod enc P w base spare held fuel t cs = some x → ∃ y : T.D, rep w (Here w) T y cs ∧ wfT T y
theorem opens_one {P : Program} {t : TypeId} {c : T} (h : Opens P t c) : Opens P t (rowT [c]) := by
  intro H enc w base spare held fuel cs x hx
  obtain ⟨y, h1, h2⟩ := h H enc w base spare held fuel cs x hx
  exact ⟨(y, ()), ⟨cs, [], by simp, h1, rfl⟩, h2, trivial⟩
theorem opens_int {P : Program} {t : TypeId} {k : IntKind} (ht : P.underlying t = some (.int k)) : Opens P t (.int k) := by
  intro H enc w base spare held fuel cs x h
  obtain ⟨n, rfl, _, hw⟩ := DataW.trod_int ht h
  exact ⟨n, rfl, hw⟩
theorem opens_bool {P : Program} {t : TypeId} (ht : P.underlying t = some .bool) : Opens P t .bool := by
  intro H enc w base spare held fuel cs x h
  obtain ⟨n, rfl, _⟩ := DataW.trod_bool ht h
  exact ⟨n, rfl, trivial⟩
theorem opens_string {P : Program} {t : TypeId} (ht : P.underlying t = some .string) : Opens P t .str := by
  intro H enc w base spare held fuel cs x h
  obtain ⟨n, rfl, _, hw⟩ := DataW.trod_string ht h
  exact ⟨n, rfl, hw⟩
theorem addr_add_add (a : Addr) (i j : Nat) : (a.add i).add j = a.add (i + j) := by
  by_cases hi : i = 0
  · subst hi; simp [Addr.add]
  · by_cases hj : j = 0
    · subst hj; simp [Addr.add]
    · simp [Addr.add, hi, hj, Nat.add_assoc]
theorem cell_spot {w : World} {a : Addr} {v : Value} (h : w.cell? a = some v) : a.spot = none ∧ a.block < w.heap.size := by
  unfold World.cell? at h
  split at h
  · rename_i c t z hc
    refine ⟨?_, (Array.getElem?_eq_some_iff.1 hc).1⟩
    cases hs : a.spot with
    | none => rfl
    | some _ => rw [hs] at h; simp at h
  · cases h
theorem opens_slice {P : Program} {t e : TypeId} {T : T} (ht : P.underlying t = some (.slice e)) (hd : Opens P e T) (hs : P.cellsOf e = T.n) : Opens P t (.sl T) := by
  intro H enc w base spare held fuel cs x h
  rcases open_slice ht h with ⟨rfl, _⟩ | ⟨a, len, cap, m, n, D, Pl, rfl, hb, hl, hm, hmm, _, hx⟩
  · exact ⟨[], ⟨none, 0, [], rfl, Nat.le_refl _, rfl, fun j u hj => by simp at hj⟩, by simp, by simp⟩
  · have hlm : len ≤ m := by rw [hmm]; split <;> omega
    have key : ∀ k, k ≤ len → ∃ (ys : List T.D) (vs : List Value), ys.length = k ∧ reps (rep w (Here w) T) ys vs ∧ (∀ y ∈ ys, wfT T y) ∧ ∀ j u, vs[j]? = some u → w.cell? (a.add j) = some u := by
      intro k
      induction k with
      | zero => intro _; exact ⟨[], [], rfl, rfl, by simp, fun j u hj => by simp at hj⟩
      | succ k ih =>
        intro hk
        obtain ⟨ys, vs, hy, hr, hw, hc⟩ := ih (by omega)
        obtain ⟨cs', hcs, htr⟩ := hx k (by omega)
        obtain ⟨y, hy1, hw1⟩ := hd H enc w base spare held n cs' _ htr
        rw [hs] at hcs
        obtain ⟨_, hlen, hcell⟩ := World.cells?_some hcs
        have hvl := reps.length (fun x c hxc => rep.length (t := T) hxc) hr
        refine ⟨ys ++ [y], vs ++ cs', by simp [hy], hr.append ⟨cs', [], by simp, hy1, rfl⟩, ?_, ?_⟩
        · intro z hz
          rcases List.mem_append.1 hz with hz | hz
          · exact hw z hz
          · simp only [List.mem_singleton] at hz
            subst hz
            exact hw1
        · intro j u hj
          rcases Nat.lt_or_ge j vs.length with hjl | hjl
          · rw [List.getElem?_append_left hjl] at hj
            exact hc j u hj
          · rw [List.getElem?_append_right hjl] at hj
            have hjc : j - vs.length < cs'.length := (List.getElem?_eq_some_iff.1 hj).1
            have := hcell (j - vs.length) (by omega)
            rw [addr_add_add, hj] at this
            rw [← this]
            congr 2
            rw [hvl, hy] at hjl ⊢
            omega
    obtain ⟨ys, vs, hy, hr, hw, hc⟩ := key len (Nat.le_refl _)
    subst hy
    refine ⟨ys, ⟨some a, cap, vs, rfl, hl, hr, fun j u hj => ⟨a, rfl, ?_, ?_, hc j u hj⟩⟩, by omega, hw⟩
    · have h0 : ∃ u0, vs[0]? = some u0 := by
        have : j < vs.length := (List.getElem?_eq_some_iff.1 hj).1
        exact ⟨vs[0], by simp⟩
      obtain ⟨u0, h0⟩ := h0
      have := hc 0 u0 h0
      have ha : a.add 0 = a := by simp [Addr.add]
      rw [ha] at this
      exact (cell_spot this).1
    · have := (cell_spot (hc j u hj)).2
      rwa [add_block] at this
def opnF (tab : List (Nat × TI)) (P : Program) (g : TypeId → List T → Bool) : List Field → Nat → List T → Bool
  | [], _, cells => emptyL cells
  | f :: fs, off, cells => match look tab f.type with
    | some i => Nat.beq f.offset off && Nat.beq (P.cellsOf f.type) i.cells.length && decide (cells.take i.cells.length = i.cells) && g f.type i.cells && opnF tab P g fs (off + i.cells.length) (cells.drop i.cells.length)
    | none => false
/-- does a type read as these cells? -/
def opn (tab : List (Nat × TI)) (P : Program) : Nat → TypeId → List T → Bool
  | 0, _, _ => false
  | n + 1, t, cells => match P.underlying t with
    | some (.int k) => decide (cells = [.int k])
    | some .bool => decide (cells = [.bool])
    | some .string => decide (cells = [.str])
    | some (.slice e) => match look tab e with
      | some i => decide (cells = [.sl i.row]) && Nat.beq (P.cellsOf e) i.cells.length && i.cells.all T.scal && opn tab P n e i.cells && (i.agg || Nat.beq i.cells.length 1)
      | none => false
    | some (.struct fs) => Nat.beq (P.cellsOf t) cells.length && cells.all T.scal && opnF tab P (opn tab P n) fs.toList 0 cells
    | _ => false
theorem rowT_n : ∀ {cells : List T}, cells.all T.scal = true → (rowT cells).n = cells.length
  | [], _ => rfl
  | c :: l, h => by
    simp only [List.all_cons, Bool.and_eq_true] at h
    have h1 := rowT_n h.2
    have hc : c.n = 1 := by cases c <;> first | rfl | cases h.1
    show c.n + (rowT l).n = _
    rw [h1, hc, List.length_cons]
    omega
theorem rep_app {w : World} {Z : Nat → Prop} : ∀ {l m : List T} {x : (rowT l).D} {y : (rowT m).D} {cs ds : List Value}, rep w Z (rowT l) x cs → rep w Z (rowT m) y ds → wfT (rowT l) x → wfT (rowT m) y → ∃ z : (rowT (l ++ m)).D, rep w Z (rowT (l ++ m)) z (cs ++ ds) ∧ wfT (rowT (l ++ m)) z
  | [], _, _, y, cs, ds, h, h', _, hw => by
    have : cs = [] := h
    subst this
    exact ⟨y, h', hw⟩
  | c :: l, m, x, y, cs, ds, ⟨c1, d1, e, h1, h2⟩, h', hw, hw' => by
    obtain ⟨z, h3, h4⟩ := rep_app (l := l) (m := m) (x := x.2) (y := y) h2 h' hw.2 hw'
    exact ⟨(x.1, z), ⟨c1, d1 ++ ds, by rw [e, List.append_assoc], h1, h3⟩, hw.1, h4⟩
theorem opnF_ok {tab : List (Nat × TI)} {P : Program} {g : TypeId → List T → Bool} (hg : ∀ t cells, g t cells = true → Opens P t (rowT cells)) {H : Type} {enc : TypeId × Value → H} {w : World} {base : Nat} {spare : Nat → Bool} {held : Bool} {n : Nat} {cs : List Value} :
    ∀ {fs : List Field} {off : Nat} {cells : List T}, opnF tab P g fs off cells = true → (∀ f ∈ fs, ∃ x, DataW.trod enc P w base spare held n f.type ((cs.drop f.offset).take (P.cellsOf f.type)) = some x) → cs.length = off + cells.length →
      ∃ y : (rowT cells).D, rep w (Here w) (rowT cells) y (cs.drop off) ∧ wfT (rowT cells) y
  | [], off, cells, h, _, hl => by
    have : cells = [] := by
      cases cells with
      | nil => rfl
      | cons _ _ => cases h
    subst this
    refine ⟨(), ?_, trivial⟩
    show cs.drop off = []
    exact List.drop_of_length_le (by simp at hl; omega)
  | f :: fs, off, cells, h, hf, hl => by
    simp only [opnF] at h
    split at h
    · rename_i i hi
      simp only [Bool.and_eq_true, decide_eq_true_eq] at h
      obtain ⟨⟨⟨⟨h1, h2⟩, h3⟩, h4⟩, h5⟩ := h
      have h1 := beq_eq h1
      have h2 := beq_eq h2
      obtain ⟨x, hx⟩ := hf f (by simp)
      obtain ⟨y, h6, h7⟩ := hg f.type i.cells h4 H enc w base spare held n _ x hx
      have hlen : cells.length = i.cells.length + (cells.drop i.cells.length).length := by
        have := congrArg List.length h3
        rw [List.length_take] at this
        rw [List.length_drop]
        omega
      obtain ⟨z, h8, h9⟩ := opnF_ok hg (fs := fs) (off := off + i.cells.length) (cells := cells.drop i.cells.length) h5 (fun f' hf' => hf f' (by simp [hf'])) (by omega)
      obtain ⟨q, h10, h11⟩ := rep_app h6 h8 h7 h9
      have e1 : i.cells ++ cells.drop i.cells.length = cells := by
        rw [← h3]
        simp only [List.length_take]
        rw [Nat.min_eq_left (by omega)]
        exact List.take_append_drop _ _
      have e2 : (cs.drop f.offset).take (P.cellsOf f.type) ++ cs.drop (off + i.cells.length) = cs.drop off := by
        rw [h1, h2, ← List.drop_drop]
        exact List.take_append_drop _ _
      rw [e2] at h10
      revert q
      rw [e1]
      exact fun q h10 h11 => ⟨q, h10, h11⟩
    · cases h
theorem opn_ok {tab : List (Nat × TI)} {P : Program} : ∀ (n : Nat) (t : TypeId) (cells : List T), opn tab P n t cells = true → Opens P t (rowT cells)
  | 0, _, _, h => by cases h
  | n + 1, t, cells, h => by
    simp only [opn] at h
    split at h
    · rename_i k hu
      rw [decide_eq_true_eq] at h
      subst h
      exact opens_one (opens_int hu)
    · rename_i hu
      rw [decide_eq_true_eq] at h
      subst h
      exact opens_one (opens_bool hu)
    · rename_i hu
      rw [decide_eq_true_eq] at h
      subst h
      exact opens_one (opens_string hu)
    · rename_i e hu
      split at h
      · rename_i i hi
        simp only [Bool.and_eq_true, decide_eq_true_eq, Bool.or_eq_true] at h
        obtain ⟨⟨⟨⟨h1, h2⟩, h3⟩, h4⟩, h5⟩ := h
        subst h1
        have ih := opn_ok n e i.cells h4
        refine opens_one (opens_slice hu ?_ ?_)
        · unfold TI.row
          split
          · rename_i c ha hc
            rw [hc] at ih
            intro H enc w base spare held fuel cs x hx
            obtain ⟨y, ⟨c1, d1, e1, h6, h7⟩, h8⟩ := ih H enc w base spare held fuel cs x hx
            have : d1 = [] := h7
            subst this
            rw [List.append_nil] at e1
            subst e1
            exact ⟨y.1, h6, h8.1⟩
          · exact ih
        · rw [beq_eq h2]
          unfold TI.row
          split
          · rename_i c ha hc
            rw [hc] at h3 ⊢
            simp only [List.all_cons, List.all_nil, Bool.and_true] at h3
            cases c <;> first | rfl | cases h3
          · exact (rowT_n h3).symm
      · cases h
    · rename_i fs hu
      simp only [Bool.and_eq_true] at h
      obtain ⟨⟨h1, h2⟩, h3⟩ := h
      intro H enc w base spare held fuel cs x hx
      obtain ⟨xs, m, _, _, hl, hlen, hall⟩ := DataW.trod_struct hu hx
      have := opnF_ok (fun t cells h => opn_ok n t cells h) (enc := enc) (w := w) (base := base) (spare := spare) (held := held) (n := m) (cs := cs) h3 (fun f hf => by
        obtain ⟨i, hi⟩ := List.getElem?_of_mem hf
        have hi' : fs[i]? = some f := by simpa using hi
        have hlt : i < fs.size := (Array.getElem?_eq_some_iff.1 hi').1
        exact ⟨_, (hall i f hi').trans (List.getElem?_eq_getElem (by omega))⟩) (by rw [hl, beq_eq h1]; omega)
      simpa using this
    · cases h
/-! an argument as a shape -/
def vSh (i : TI) : Sh := match i.agg, i.cells with
  | false, [c] => .c (.v c)
  | _, l => .agg (l.map .v)
def shWf : (s : Sh) → s.D → Prop
  | .c (.v t), x => wfT t x
  | .agg cs, x => scsWf cs x
  | _, _ => False
where scsWf : (cs : List Sc) → Dats cs → Prop
  | [], _ => True
  | .v t :: cs, x => wfT t x.1 ∧ scsWf cs x.2
  | .o .. :: _, _ => False
theorem rowT_sreps {w : World} {Z : Nat → Prop} : ∀ {l : List T} {x : (rowT l).D} {cs : List Value}, l.all T.scal = true → rep w Z (rowT l) x cs → wfT (rowT l) x → ∃ y : Dats (l.map .v), SReps w Z (l.map .v) y cs [] ∧ shWf.scsWf (l.map .v) y
  | [], _, cs, _, h, _ => by
    have : cs = [] := h
    subst this
    exact ⟨(), rfl, trivial⟩
  | c :: l, x, cs, hs, ⟨c1, d1, e, h1, h2⟩, hw => by
    simp only [List.all_cons, Bool.and_eq_true] at hs
    obtain ⟨y, h3, h4⟩ := rowT_sreps (l := l) (x := x.2) hs.2 h2 hw.2
    have hlen := rep.length h1
    have hc : c.n = 1 := by cases c <;> first | rfl | cases hs.1
    obtain ⟨v, rfl⟩ : ∃ v, c1 = [v] := by
      cases c1 with
      | nil => rw [hc] at hlen; simp at hlen
      | cons v c1 => cases c1 with
        | nil => exact ⟨v, rfl⟩
        | cons _ _ => rw [hc] at hlen; simp at hlen
    subst e
    exact ⟨(x.1, y), ⟨[], [], rfl, ⟨h1, rfl⟩, h3⟩, hw.1, h4⟩
def opnArg (tab : List (Nat × TI)) (P : Program) (t : TypeId) (i : TI) : Bool := i.cells.all T.scal && opn tab P 20 t i.cells && (match P.underlying t with
  | some (.struct _) => i.agg
  | some (.slice _) => !i.agg && Nat.beq i.cells.length 1
  | some .bool => !i.agg && Nat.beq i.cells.length 1
  | some .string => !i.agg && Nat.beq i.cells.length 1
  | some (.int _) => !i.agg && Nat.beq i.cells.length 1
  | _ => false)
theorem opnArg_ok {tab : List (Nat × TI)} {P : Program} {t : TypeId} {i : TI} (h : opnArg tab P t i = true) {H : Type} {enc : TypeId × Value → H} {W : World} {base b0 : Nat} {spare : Nat → Bool} {held : Bool} {r : Go.Reach} {v : Value} {x : DataW H} {p : List MemPlace}
    (hv : Value.okWide P W r b0 t v) (hx : DataW.Trod enc P W base spare held t v x p) : ∃ y : (vSh i).D, ShRep W (Here W) (vSh i) y v [] ∧ shWf (vSh i) y := by
  unfold opnArg at h
  simp only [Bool.and_eq_true] at h
  obtain ⟨⟨h1, h2⟩, h3⟩ := h
  obtain ⟨fuel, hf⟩ := hx
  obtain ⟨y, h4, h5⟩ := opn_ok 20 t i.cells h2 H enc W base spare held fuel _ _ hf
  have one : ∀ {c : T}, i.agg = false → i.cells = [c] → v.cells.toList = [v] → ∃ y : (vSh i).D, ShRep W (Here W) (vSh i) y v [] ∧ shWf (vSh i) y := by
    intro c ha hc hvc
    revert y
    rw [hvc]
    unfold vSh
    rw [ha, hc]
    rintro y ⟨c1, d1, e, h6, h7⟩ h8
    have : d1 = [] := h7
    subst this
    rw [List.append_nil] at e
    subst e
    exact ⟨y.1, ⟨h6, rfl⟩, h8.1⟩
  have len1 : Nat.beq i.cells.length 1 = true → ∃ c, i.cells = [c] := by
    intro hl
    have hl := beq_eq hl
    cases hc : i.cells with
    | nil => rw [hc] at hl; simp at hl
    | cons c l => cases l with
      | nil => exact ⟨c, rfl⟩
      | cons _ _ => rw [hc] at hl; simp at hl
  split at h3
  · rename_i fs hu
    obtain ⟨cs, rfl, _⟩ := okWide_struct hu hv
    obtain ⟨z, h6, h7⟩ := rowT_sreps h1 h4 h5
    unfold vSh
    rw [h3]
    exact ⟨z, ⟨cs, rfl, h6⟩, h7⟩
  · rename_i hu
    simp only [Bool.and_eq_true, Bool.not_eq_true'] at h3
    obtain ⟨c, hc⟩ := len1 h3.2
    refine one h3.1 hc ?_
    obtain ⟨a, len, cap, rfl⟩ := okWide_slice hu hv
    rfl
  · rename_i hu
    simp only [Bool.and_eq_true, Bool.not_eq_true'] at h3
    obtain ⟨c, hc⟩ := len1 h3.2
    refine one h3.1 hc ?_
    obtain ⟨b, rfl⟩ := okWide_bool hu hv
    rfl
  · rename_i hu
    simp only [Bool.and_eq_true, Bool.not_eq_true'] at h3
    obtain ⟨c, hc⟩ := len1 h3.2
    refine one h3.1 hc ?_
    obtain ⟨b, rfl⟩ := okWide_string hu hv
    rfl
  · rename_i hu
    simp only [Bool.and_eq_true, Bool.not_eq_true'] at h3
    obtain ⟨c, hc⟩ := len1 h3.2
    refine one h3.1 hc ?_
    obtain ⟨b, rfl⟩ := okWide_int hu hv
    rfl
  · cases h3
/-- a law, from what its run answers -/
theorem law_calls {cx : Cx} {f : Nat} {inp : (cx.spec f).In} {out : (cx.spec f).Out} (hC : Contract cx f inp out) {w : World} {args : List Value} (hrep : ShsRep w (Here w) (cx.spec f).ps inp args []) (hGL : GL cx w (Here w)) {v : Value}
    (hout : ∀ (w' : World) (Z : Nat → Prop) (vs : List Value) (fp : List Nat), ShsRep w' Z (cx.spec f).rs out.1 vs fp → tupV vs = v) : Calls cx.P (f % 1000) args.toArray w (fun e w' => e = .returned v ∧ Below w.heap.size w w') := by
  refine (hC w (Here w) args [] hrep (by simp) (fun b hb => by cases hb) (fun b hb => hb) hGL).mono ?_
  rintro e w' ⟨rvs, Z', rfp, pfp, rfl, h1, _, _, _, _, _, hk⟩
  refine ⟨by rw [hout _ _ _ _ h1], hk.os, hk.tape, hk.output, hk.size, fun b hb => hk.block b hb (fun h => ?_)⟩
  rcases h with h | h
  · cases h
  · omega
theorem res_bool {w : World} {Z : Nat → Prop} {b : Bool} {vs : List Value} {fp : List Nat} (h : ShsRep w Z [.c (.v .bool)] (b, ()) vs fp) : tupV vs = .bool b := by
  match vs, h with
  | [v], ⟨f, g, _, ⟨h1, _⟩, _⟩ => exact (List.cons.inj (show [v] = [.bool b] from h1)).1
  | [], h => exact h.elim
  | _ :: _ :: _, ⟨_, _, _, _, h⟩ => exact h.elim
end Go.Rf
end

section
/-! Rf: runs that come to an answer, in plain Lean. -/
set_option autoImplicit false
namespace Go.Rf

/-- From some fuel on the answer is r. -/
def Ev {α : Type} (g : Nat → Option α) (r : α) : Prop := ∃ K, ∀ k, K ≤ k → g k = some r
section
variable {α β γ ρ : Type}
theorem Ev.now (r : α) : Ev (fun _ => some r) r := ⟨0, fun _ _ => rfl⟩
theorem Ev.congr {g h : Nat → Option α} {r : α} (e : ∀ k, g k = h k) (hh : Ev h r) : Ev g r := by
  obtain ⟨K, hK⟩ := hh
  exact ⟨K, fun k hk => (e k).trans (hK k hk)⟩
theorem Ev.bind {g : Nat → Option α} {f : Nat → α → Option β} {x : α} {r : β} (h : Ev g x) (h2 : Ev (fun k => f k x) r) : Ev (fun k => (g k).bind (f k)) r := by
  obtain ⟨K, hK⟩ := h
  obtain ⟨L, hL⟩ := h2
  refine ⟨max K L, fun k hk => ?_⟩
  show (g k).bind (f k) = some r
  rw [hK k (by omega), Option.bind_some]
  exact hL k (by omega)
theorem Ev.step {g h : Nat → Option α} {r : α} (n : Nat) (e : ∀ k, g (k + n) = h k) (hh : Ev h r) : Ev g r := by
  obtain ⟨K, hK⟩ := hh
  refine ⟨K + n, fun k hk => ?_⟩
  obtain ⟨j, rfl⟩ : ∃ j, k = j + n := ⟨k - n, by omega⟩
  rw [e]
  exact hK j (by omega)
theorem Ev.get {g : Nat → Option α} {r : α} (h : Ev g r) : ∃ k, g k = some r := by
  obtain ⟨K, hK⟩ := h
  exact ⟨K, hK K (Nat.le_refl _)⟩
theorem Ev.unique {g : Nat → Option α} {r r' : α} (h : Ev g r) (h' : Ev g r') : r = r' := by
  obtain ⟨K, hK⟩ := h
  obtain ⟨L, hL⟩ := h'
  have h1 := hK (max K L) (by omega)
  rw [hL (max K L) (by omega)] at h1
  exact (Option.some.inj h1).symm
theorem Ev.pos {c : Nat → Bool} {g h : Nat → Option α} {r : α} (hc : ∀ k, c k = true) (hh : Ev g r) : Ev (fun k => if c k = true then g k else h k) r := Ev.congr (fun k => if_pos (hc k)) hh
theorem Ev.neg {c : Nat → Bool} {g h : Nat → Option α} {r : α} (hc : ∀ k, c k = false) (hh : Ev h r) : Ev (fun k => if c k = true then g k else h k) r := Ev.congr (fun k => if_neg (by rw [hc k]; simp)) hh

theorem wrap64 {n : Int} (h1 : -9223372036854775808 ≤ n) (h2 : n ≤ 9223372036854775807) : IntKind.i64.wrap n = n := by
  unfold IntKind.wrap
  simp [IntKind.bits, IntKind.signed]
  omega
theorem wrap_succ {i : Nat} (h : i < 9223372036854775807) : IntKind.i64.wrap ((i : Int) + 1) = ((i + 1 : Nat) : Int) := by
  rw [wrap64 (by omega) (by omega)]
  omega
/-! ### loops over a row -/
theorem lt_true {i n : Nat} (h : i < n) : decide ((i : Int) < (n : Int)) = true := by simp; omega
theorem lt_false {i n : Nat} (h : n ≤ i) : decide ((i : Int) < (n : Int)) = false := by simp; omega
theorem ge0 (i : Nat) : decide (0 ≤ (i : Int)) = true := by simp
/-- a loop that copies, element by element -/
theorem copy_loop {L : Nat → List β → Int → Option ρ} {x0 : List α} {g : Nat → α → Option γ} {f : γ → β} {fin : List β → ρ} {h : α → γ} (hn : x0.length ≤ 9223372036854775807)
    (e : ∀ k x3 i, L (k + 1) x3 i = if decide (i < (x0.length : Int)) = true then if decide (0 ≤ i) = true then (x0[i.toNat]?).bind fun y => (g k y).bind fun r => if (decide (0 ≤ i) && decide (i < (x3.length : Int))) = true then
      (x3[i.toNat]?).bind fun _ => L k (x3.set i.toNat (f r)) (IntKind.i64.wrap (i + 1)) else none else none else some (fin x3))
    (hg : ∀ y, y ∈ x0 → Ev (fun k => g k y) (h y)) (x3 : List β) (h3 : x3.length = x0.length) : Ev (fun k => L k x3 0) (fin (x0.map fun y => f (h y))) := by
  have key : ∀ (m i : Nat) (x3 : List β), i + m = x0.length → x3.length = x0.length → x3.take i = (x0.take i).map (fun y => f (h y)) → Ev (fun k => L k x3 (i : Int)) (fin (x0.map fun y => f (h y))) := by
    intro m
    induction m with
    | zero =>
      intro i x3 hi h3 ht
      refine Ev.step 1 (fun k => e k x3 i) ?_
      simp only [lt_false (show x0.length ≤ i by omega), Bool.false_eq_true, if_false]
      rw [List.take_of_length_le (by omega), List.take_of_length_le (by omega)] at ht
      rw [ht]
      exact Ev.now _
    | succ m ih =>
      intro i x3 hi h3 ht
      have hlt : i < x0.length := by omega
      have h0 : x0[i]? = some x0[i] := List.getElem?_eq_getElem hlt
      have h4 : x3[i]? = some (x3[i]'(by omega)) := List.getElem?_eq_getElem (by omega)
      refine Ev.step 1 (fun k => e k x3 i) ?_
      simp only [lt_true hlt, ge0, if_true, Int.toNat_natCast, h0, Option.bind_some, lt_true (show i < x3.length by omega), Bool.and_self, h4]
      refine Ev.bind (hg _ (List.getElem_mem hlt)) ?_
      rw [wrap_succ (by omega)]
      refine ih (i + 1) (x3.set i (f (h x0[i]))) (by omega) (by simpa using h3) ?_
      rw [List.take_add_one, List.take_set_of_le (Nat.le_refl _), ht, List.getElem?_set_self (by omega), List.take_add_one, h0]
      simp only [Option.toList_some, List.map_append, List.map_cons, List.map_nil]
  have := key x0.length 0 x3 (by omega) h3 (by simp)
  exact this
/-- a loop that compares a row with itself -/
theorem same_loop {L : Nat → Int → Option ρ} {x0 : List α} {g : Nat → α → α → Option γ} {p : γ → Bool} {no yes : ρ} {h : α → γ} (hn : x0.length ≤ 9223372036854775807)
    (e : ∀ k i, L (k + 1) i = if decide (i < (x0.length : Int)) = true then if decide (0 ≤ i) = true then (x0[i.toNat]?).bind fun y1 => if decide (0 ≤ i) = true then (x0[i.toNat]?).bind fun y2 => (g k y1 y2).bind fun r =>
      if (!p r) = true then some no else L k (IntKind.i64.wrap (i + 1)) else none else none else some yes)
    (hg : ∀ y, y ∈ x0 → Ev (fun k => g k y y) (h y) ∧ p (h y) = true) : Ev (fun k => L k 0) yes := by
  have key : ∀ (m i : Nat), i + m = x0.length → Ev (fun k => L k (i : Int)) yes := by
    intro m
    induction m with
    | zero =>
      intro i hi
      refine Ev.step 1 (fun k => e k i) ?_
      simp only [lt_false (show x0.length ≤ i by omega), Bool.false_eq_true, if_false]
      exact Ev.now _
    | succ m ih =>
      intro i hi
      have hlt : i < x0.length := by omega
      have h0 : x0[i]? = some x0[i] := List.getElem?_eq_getElem hlt
      obtain ⟨h1, h2⟩ := hg _ (List.getElem_mem hlt)
      refine Ev.step 1 (fun k => e k i) ?_
      simp only [lt_true hlt, ge0, if_true, Int.toNat_natCast, h0, Option.bind_some]
      refine Ev.bind h1 ?_
      simp only [h2, Bool.not_true, Bool.false_eq_true, if_false]
      rw [wrap_succ (by omega)]
      exact ih (i + 1) (by omega)
  exact key x0.length 0 (by omega)
/-- a loop that takes each element's bulk off a budget -/
theorem size_loop {L : Nat → Int → Int → Option ρ} {x0 : List α} {g : Nat → α → Int → Option γ} {p : γ → Int} {no : ρ} {fin : Int → ρ} {Q : α → Prop} (hn : x0.length ≤ 9223372036854775807)
    (e : ∀ k b i, L (k + 1) b i = if decide (i < (x0.length : Int)) = true then if decide (0 ≤ i) = true then (x0[i.toNat]?).bind fun y => (g k y b).bind fun r => if decide (p r < 0) = true then some no else L k (p r) (IntKind.i64.wrap (i + 1)) else none else some (fin b))
    {B : Int} (hg : ∀ y, y ∈ x0 → ∀ b, 0 ≤ b → b ≤ B → ∃ r, Ev (fun k => g k y b) r ∧ (p r < 0 ∨ (0 ≤ p r ∧ p r ≤ b ∧ Q y))) (b : Int) (hb : 0 ≤ b) (hB : b ≤ B) :
    ∃ r, Ev (fun k => L k b 0) r ∧ (r = no ∨ ∃ b', r = fin b' ∧ 0 ≤ b' ∧ b' ≤ b ∧ ∀ y, y ∈ x0 → Q y) := by
  have key : ∀ (m i : Nat) (b : Int), 0 ≤ b → b ≤ B → i + m = x0.length → ∃ r, Ev (fun k => L k b (i : Int)) r ∧ (r = no ∨ ∃ b', r = fin b' ∧ 0 ≤ b' ∧ b' ≤ b ∧ ∀ y, y ∈ x0.drop i → Q y) := by
    intro m
    induction m with
    | zero =>
      intro i b hb hB hi
      refine ⟨fin b, Ev.step 1 (fun k => e k b i) ?_, .inr ⟨b, rfl, hb, Int.le_refl _, fun y hy => ?_⟩⟩
      · simp only [lt_false (show x0.length ≤ i by omega), Bool.false_eq_true, if_false]
        exact Ev.now _
      · rw [List.drop_of_length_le (by omega)] at hy
        cases hy
    | succ m ih =>
      intro i b hb hB hi
      have hlt : i < x0.length := by omega
      have h0 : x0[i]? = some x0[i] := List.getElem?_eq_getElem hlt
      obtain ⟨r, h1, h2⟩ := hg _ (List.getElem_mem hlt) b hb hB
      have st : ∀ {q : ρ}, Ev (fun k => if decide (p r < 0) = true then some no else L k (p r) (IntKind.i64.wrap ((i : Int) + 1))) q → Ev (fun k => L k b (i : Int)) q := by
        intro q hq
        refine Ev.step 1 (fun k => e k b i) ?_
        simp only [lt_true hlt, ge0, if_true, Int.toNat_natCast, h0, Option.bind_some]
        exact Ev.bind h1 hq
      rcases h2 with h2 | ⟨h2, h3, h4⟩
      · refine ⟨no, st ?_, .inl rfl⟩
        simp only [h2, decide_true, if_true]
        exact Ev.now _
      · obtain ⟨q, h5, h6⟩ := ih (i + 1) (p r) h2 (by omega) (by omega)
        refine ⟨q, st ?_, ?_⟩
        · have h7 : decide (p r < 0) = false := by simp; omega
          simp only [h7, Bool.false_eq_true, if_false]
          rw [wrap_succ (by omega)]
          exact h5
        · rcases h6 with h6 | ⟨b', h6, h7, h8, h9⟩
          · exact .inl h6
          · refine .inr ⟨b', h6, h7, by omega, fun y hy => ?_⟩
            rw [List.drop_eq_getElem_cons hlt] at hy
            rcases List.mem_cons.1 hy with rfl | hy
            · exact h4
            · exact h9 y hy
  obtain ⟨r, h1, h2⟩ := key x0.length 0 b hb hB (by omega)
  exact ⟨r, h1, by simpa using h2⟩
/-- a loop that asks each place -/
theorem all_loop {L : Nat → Int → Option ρ} {n : Nat} {no yes : ρ} {c : Nat → Bool} (hstop : ∀ i, i < n → c i = false → Ev (fun k => L k (i : Int)) no) (hgo : ∀ i, i < n → c i = true → ∀ r, Ev (fun k => L k ((i + 1 : Nat) : Int)) r → Ev (fun k => L k (i : Int)) r)
    (hend : Ev (fun k => L k (n : Int)) yes) : Ev (fun k => L k 0) (if (List.range n).all c = true then yes else no) := by
  have key : ∀ (m i : Nat), i + m = n → Ev (fun k => L k (i : Int)) (if (List.range' i m).all c = true then yes else no) := by
    intro m
    induction m with
    | zero =>
      intro i hi
      have : i = n := by omega
      subst this
      exact hend
    | succ m ih =>
      intro i hi
      rw [List.range'_succ, List.all_cons]
      cases hc : c i with
      | false => exact hstop i (by omega) hc
      | true => exact hgo i (by omega) hc _ (ih (i + 1) (by omega))
  have h0 := key n 0 (by omega)
  rw [← List.range_eq_range'] at h0
  exact h0
/-- a loop that ends at the first place that fails -/
theorem find_loop {L : Nat → Int → Option ρ} {n : Nat} {no : Nat → ρ} {yes : ρ} {c : Nat → Bool} (hstop : ∀ i, i < n → c i = false → Ev (fun k => L k (i : Int)) (no i)) (hgo : ∀ i, i < n → c i = true → ∀ r, Ev (fun k => L k ((i + 1 : Nat) : Int)) r → Ev (fun k => L k (i : Int)) r)
    (hend : Ev (fun k => L k (n : Int)) yes) : ∃ r, Ev (fun k => L k 0) r ∧ (((List.range n).all c = true ∧ r = yes) ∨ ((List.range n).all c = false ∧ ∃ i, i < n ∧ r = no i)) := by
  have key : ∀ (m i : Nat), i + m = n → ∃ r, Ev (fun k => L k (i : Int)) r ∧ (((List.range' i m).all c = true ∧ r = yes) ∨ ((List.range' i m).all c = false ∧ ∃ i, i < n ∧ r = no i)) := by
    intro m
    induction m with
    | zero =>
      intro i hi
      have : i = n := by omega
      subst this
      exact ⟨yes, hend, .inl ⟨rfl, rfl⟩⟩
    | succ m ih =>
      intro i hi
      rw [List.range'_succ, List.all_cons]
      cases hc : c i with
      | false => exact ⟨no i, hstop i (by omega) hc, .inr ⟨rfl, i, by omega, rfl⟩⟩
      | true =>
        obtain ⟨r, h1, h2⟩ := ih (i + 1) (by omega)
        exact ⟨r, hgo i (by omega) hc _ h1, h2⟩
  obtain ⟨r, h1, h2⟩ := key n 0 (by omega)
  rw [← List.range_eq_range'] at h2
  exact ⟨r, h1, h2⟩
/-- as all_loop, where the end is told of those alone that come to it -/
theorem all_loop' {L : Nat → Int → Option ρ} {n : Nat} {no yes : ρ} {c : Nat → Bool} (hstop : ∀ i, i < n → c i = false → Ev (fun k => L k (i : Int)) no) (hgo : ∀ i, i < n → c i = true → ∀ r, Ev (fun k => L k ((i + 1 : Nat) : Int)) r → Ev (fun k => L k (i : Int)) r)
    (hend : (List.range n).all c = true → Ev (fun k => L k (n : Int)) yes) : Ev (fun k => L k 0) (if (List.range n).all c = true then yes else no) := by
  cases h : (List.range n).all c with
  | true =>
    have := all_loop hstop hgo (hend h)
    rw [h] at this
    exact this
  | false =>
    have key : ∀ (m i : Nat), i + m = n → (∃ j, i ≤ j ∧ j < n ∧ c j = false) → Ev (fun k => L k (i : Int)) no := by
      intro m
      induction m with
      | zero => rintro i hi ⟨j, h1, h2, _⟩; omega
      | succ m ih =>
        rintro i hi ⟨j, h1, h2, h3⟩
        cases hc : c i with
        | false => exact hstop i (by omega) hc
        | true =>
          refine hgo i (by omega) hc _ (ih (i + 1) (by omega) ⟨j, ?_, h2, h3⟩)
          rcases Nat.eq_or_lt_of_le h1 with h4 | h4
          · rw [h4, h3] at hc; cases hc
          · exact h4
    obtain ⟨j, h1, h2⟩ := List.all_eq_false.1 h
    exact key n 0 (by omega) ⟨j, by omega, by simpa using h1, by simpa using h2⟩
theorem not_less : ∀ a b : List UInt8, (!(Op.bytesLess a b)) = (Op.bytesLess b a || b == a)
  | [], [] => rfl
  | [], _ :: _ => by simp [Op.bytesLess]
  | _ :: _, [] => by simp [Op.bytesLess]
  | x :: a, y :: b => by
    have ih := not_less a b
    simp only [Op.bytesLess]
    rcases Nat.lt_trichotomy x.toNat y.toNat with h | h | h
    · have h1 : x < y := h
      have h2 : ¬ y < x := fun h' => by have h' : y.toNat < x.toNat := h'; omega
      have h3 : ¬ y = x := fun e => by subst e; omega
      simp [h1, h2, h3]
    · have e : x = y := UInt8.toNat_inj.1 h
      subst e
      simp only [beq_self_eq_true, Bool.true_and, UInt8.lt_irrefl, decide_false, Bool.false_or]
      rw [ih]
      simp
    · have h1 : ¬ x < y := fun h' => by have h' : x.toNat < y.toNat := h'; omega
      have h2 : y < x := h
      have h3 : ¬ x = y := fun e => by subst e; omega
      simp [h1, h2, h3]
end
end Go.Rf
end

section
/-! Rf: rows that lie in a row and may be written by hand: own memory, perhaps shared among themselves. -/
set_option autoImplicit false
namespace Go.Rf
open Go.RowKit

/-- A slice's cells, in memory from block B on. -/
def RowIn (w : World) (B id : Nat) (v : Value) (l : List Value) : Prop :=
  (v = .slice none 0 0 ∧ l = []) ∨ ∃ g cap cur, v = .slice (some ⟨g, 0, none⟩) l.length cap ∧ B ≤ g ∧ w.heap[g]? = some (.cells cur id (0, 0)) ∧ l.length ≤ cap ∧ cap ≤ maxLen ∧ cap ≤ cur.size ∧ cur.toList.take l.length = l

section
variable {w w' : World} {Z : Nat → Prop} {B id : Nat} {v : Value}
theorem reps_map {e : T} {f : e.D → Value} (hf : ∀ x c, rep w Z e x c → c = [f x]) : ∀ {l : List e.D} {vs : List Value}, reps (rep w Z e) l vs → vs = l.map f
  | [], _, h => h
  | x :: l, _, ⟨c, d, h, h1, h2⟩ => by rw [h, hf x c h1, reps_map hf h2]; rfl
theorem reps_of_map {e : T} {f : e.D → Value} (hf : ∀ x, rep w Z e x [f x]) : ∀ l : List e.D, reps (rep w Z e) l (l.map f)
  | [] => rfl
  | x :: l => ⟨[f x], l.map f, rfl, hf x, reps_of_map hf l⟩
theorem RowIn.of {e : T} {l : List e.D} {f : e.D → Value} (hf : ∀ x c, rep w Z e x c → c = [f x]) (hn : e.n = 1) (h : rowrep w Z v ⟨e, id, l⟩) (hb : ∀ b, blk v = some b → B ≤ b) : RowIn w B id v (l.map f) := by
  obtain ⟨xs, hr, hl, ho⟩ := h
  obtain rfl := reps_map hf hr
  rcases ho with ⟨rfl, h0⟩ | ⟨g, cap, cur, rfl, hg, hlc, hcm, hcs, ht⟩
  · obtain rfl : l = [] := List.length_eq_zero_iff.1 h0
    exact .inl ⟨rfl, rfl⟩
  · simp only [hn, Nat.mul_one] at hcs ht
    refine .inr ⟨g, cap, cur, by rw [List.length_map], hb g rfl, hg, by rw [List.length_map]; exact hlc, hcm, hcs, by rw [List.length_map]; exact ht⟩
theorem RowIn.row {e : T} {l : List e.D} {f : e.D → Value} (h : RowIn w B id v (l.map f)) (hf : ∀ x, rep w Z e x [f x]) (hn : e.n = 1) : rowrep w Z v ⟨e, id, l⟩ ∧ ∃ A n c, v = .slice A n c := by
  rcases h with ⟨rfl, h0⟩ | ⟨g, cap, cur, rfl, hb, hg, hlc, hcm, hcs, ht⟩
  · obtain rfl : l = [] := List.map_eq_nil_iff.1 h0
    exact ⟨⟨[], rfl, by simp, .inl ⟨rfl, rfl⟩⟩, _, _, _, rfl⟩
  · simp only [List.length_map] at hlc ht
    refine ⟨⟨l.map f, reps_of_map hf l, by rw [hn, List.length_map, Nat.mul_one], .inr ⟨g, cap, cur, by rw [List.length_map], hg, hlc, hcm, by rw [hn, Nat.mul_one]; exact hcs, by rw [hn, Nat.mul_one]; exact ht⟩⟩, _, _, _, rfl⟩
theorem RowIn.blk {l : List Value} (h : RowIn w B id v l) {g : Nat} (hg : blk v = some g) : B ≤ g ∧ g < w.heap.size := by
  rcases h with ⟨rfl, _⟩ | ⟨g', cap, cur, rfl, hb, hh, _⟩
  · cases hg
  · obtain rfl : g' = g := by simpa [Go.Rf.blk] using hg
    exact ⟨hb, (Array.getElem?_eq_some_iff.1 hh).1⟩
theorem RowIn.keep {l : List Value} (h : RowIn w B id v l) (hk : ∀ g, Go.Rf.blk v = some g → w'.heap[g]? = w.heap[g]?) : RowIn w' B id v l := by
  rcases h with h | ⟨g, cap, cur, rfl, hb, hh, r⟩
  · exact .inl h
  · exact .inr ⟨g, cap, cur, rfl, hb, (hk g rfl).trans hh, r⟩
theorem RowIn.below {l : List Value} (h : RowIn w B id v l) (hb : Below w.heap.size w w') : RowIn w' B id v l := h.keep fun g hg => hb.block g (h.blk hg).2
theorem RowIn.weaken {l : List Value} {B' : Nat} (h : RowIn w B id v l) (hB : B' ≤ B) : RowIn w B' id v l := by
  rcases h with h | ⟨g, cap, cur, rfl, hb, r⟩
  · exact .inl h
  · exact .inr ⟨g, cap, cur, rfl, Nat.le_trans hB hb, r⟩
theorem RowIn.cell {l : List Value} (h : RowIn w B id v l) {j : Nat} {u : Value} (hu : l[j]? = some u) : ∃ g cap, v = .slice (some ⟨g, 0, none⟩) l.length cap ∧ w.cell? ⟨g, j, none⟩ = some u := by
  rcases h with ⟨rfl, rfl⟩ | ⟨g, cap, cur, rfl, hb, hh, hlc, hcm, hcs, ht⟩
  · simp at hu
  · refine ⟨g, cap, rfl, ?_⟩
    have hj : j < l.length := (List.getElem?_eq_some_iff.1 hu).1
    have h1 : (cur.toList.take l.length)[j]? = some u := by rw [ht]; exact hu
    rw [List.getElem?_take_of_lt hj] at h1
    simpa [World.cell?, hh] using h1
theorem RowIn.rep {e : T} {l : List e.D} {f : e.D → Value} (h : RowIn w B id v (l.map f)) (hf : ∀ x, Go.Rf.rep w Z e x [f x]) (hZ : ∀ g, Go.Rf.blk v = some g → Z g) : Go.Rf.rep w Z (.sl e) l [v] := by
  have h0 := h
  rcases h with ⟨rfl, h1⟩ | ⟨g, cap, cur, rfl, hb, hh, hlc, hcm, hcs, ht⟩
  · obtain rfl : l = [] := List.map_eq_nil_iff.1 h1
    exact ⟨none, 0, [], rfl, Nat.le_refl _, rfl, fun j u hj => by simp at hj⟩
  · refine ⟨some ⟨g, 0, none⟩, cap, l.map f, by rw [List.length_map], by simpa using hlc, reps_of_map hf l, fun j u hj => ⟨⟨g, 0, none⟩, rfl, rfl, hZ g rfl, ?_⟩⟩
    obtain ⟨g', cap', e', hc⟩ := h0.cell hj
    injection e' with e1 e2 e3
    injection e1 with e1
    injection e1 with e1
    subst e1
    rw [add_mk]
    exact hc
end
abbrev strs (l : List ByteArray) : List Value := l.map .string
abbrev ints (l : List Int) : List Value := l.map (.int .i64)
/-- a tree's node in memory: its four cells -/
structure NodeIn (w : World) (B sid iid : Nat) (us : List Value) (n : Bool × List ByteArray × List ByteArray × List Int × Unit) : Prop where
  cells : ∃ uK uV uI, us = [.bool n.1, uK, uV, uI] ∧ RowIn w B sid uK (strs n.2.1) ∧ RowIn w B sid uV (strs n.2.2.1) ∧ RowIn w B iid uI (ints n.2.2.2.1)
theorem NodeIn.below {w w' : World} {B sid iid : Nat} {us : List Value} {n : Bool × List ByteArray × List ByteArray × List Int × Unit} (h : NodeIn w B sid iid us n) (hb : Below w.heap.size w w') : NodeIn w' B sid iid us n := by
  obtain ⟨a, b, c, h1, h2, h3, h4⟩ := h.cells
  exact ⟨a, b, c, h1, h2.below hb, h3.below hb, h4.below hb⟩
end Go.Rf
end

section
/-! Rf: a row of nodes in memory, their own rows one behind another. -/
set_option autoImplicit false
namespace Go.Rf
open Go.RowKit
abbrev Nd : Type := Bool × List ByteArray × List ByteArray × List Int × Unit
/-- a node's cells from place o of a block on, its rows between blocks B and E -/
def NodeC (w : World) (sid iid : Nat) (cur : Array Value) (o B E : Nat) (n : Nd) : Prop :=
  ∃ uK uV uI B1 B2, cur[o]? = some (.bool n.1) ∧ cur[o + 1]? = some uK ∧ cur[o + 2]? = some uV ∧ cur[o + 3]? = some uI ∧ B ≤ B1 ∧ B1 ≤ B2 ∧ B2 ≤ E ∧
    RowIn w B sid uK (strs n.2.1) ∧ RowIn w B1 sid uV (strs n.2.2.1) ∧ RowIn w B2 iid uI (ints n.2.2.2.1) ∧ (∀ g, blk uK = some g → g < B1) ∧ (∀ g, blk uV = some g → g < B2) ∧ (∀ g, blk uI = some g → g < E)
def Nodes (w : World) (sid iid : Nat) (cur : Array Value) (B E : Nat) (N : List Nd) : Prop :=
  ∃ b : Nat → Nat, b 0 = B ∧ b N.length = E ∧ (∀ i, i < N.length → b i ≤ b (i + 1)) ∧ ∀ i n, N[i]? = some n → NodeC w sid iid cur (i * 4) (b i) (b (i + 1)) n
theorem up_le {b : Nat → Nat} {m : Nat} (h : ∀ i, i < m → b i ≤ b (i + 1)) : ∀ j, j ≤ m → ∀ i, i ≤ j → b i ≤ b j
  | 0, _, i, hi => by rw [Nat.le_zero.1 hi]; exact Nat.le_refl _
  | j + 1, hj, i, hi => by
    rcases Nat.eq_or_lt_of_le hi with rfl | hi
    · exact Nat.le_refl _
    · exact Nat.le_trans (up_le h j (by omega) i (by omega)) (h j (by omega))
section
variable {w w' : World} {sid iid : Nat} {cur cur' : Array Value} {o B E : Nat} {n : Nd} {N : List Nd}
theorem NodeC.keep (h : NodeC w sid iid cur o B E n) (hk : ∀ g, B ≤ g → g < E → w'.heap[g]? = w.heap[g]?) (hc : ∀ j, o ≤ j → j < o + 4 → cur'[j]? = cur[j]?) : NodeC w' sid iid cur' o B E n := by
  obtain ⟨uK, uV, uI, B1, B2, e0, e1, e2, e3, l1, l2, l3, rK, rV, rI, bK, bV, bI⟩ := h
  refine ⟨uK, uV, uI, B1, B2, (hc _ (by omega) (by omega)).trans e0, (hc _ (by omega) (by omega)).trans e1, (hc _ (by omega) (by omega)).trans e2, (hc _ (by omega) (by omega)).trans e3, l1, l2, l3, rK.keep fun g hg => hk g (rK.blk hg).1 ?_, rV.keep fun g hg => hk g ?_ ?_,
    rI.keep fun g hg => hk g ?_ (bI g hg), bK, bV, bI⟩
  · have := bK g hg; omega
  · have := (rV.blk hg).1; omega
  · have := bV g hg; omega
  · have := (rI.blk hg).1; omega
theorem Nodes.le (h : Nodes w sid iid cur B E N) : B ≤ E := by
  obtain ⟨b, rfl, rfl, h3, _⟩ := h
  exact up_le h3 _ (Nat.le_refl _) 0 (Nat.zero_le _)
theorem Nodes.keep (h : Nodes w sid iid cur B E N) (hk : ∀ g, B ≤ g → g < E → w'.heap[g]? = w.heap[g]?) (hc : ∀ j, j < N.length * 4 → cur'[j]? = cur[j]?) : Nodes w' sid iid cur' B E N := by
  obtain ⟨b, h1, h2, h3, h4⟩ := h
  refine ⟨b, h1, h2, h3, fun i n hn => ?_⟩
  have hi := (List.getElem?_eq_some_iff.1 hn).1
  have l1 := up_le h3 i (by omega) 0 (Nat.zero_le _)
  have l2 := up_le h3 N.length (Nat.le_refl _) (i + 1) (by omega)
  exact (h4 i n hn).keep (fun g hg1 hg2 => hk g (by omega) (by omega)) (fun j _ hj => hc j (by omega))
theorem Nodes.nil (w : World) (sid iid : Nat) (cur : Array Value) (B : Nat) : Nodes w sid iid cur B B [] := ⟨fun _ => B, rfl, rfl, fun _ _ => Nat.le_refl _, fun i n h => by simp at h⟩
theorem Nodes.snoc (h : Nodes w sid iid cur B E N) {E' : Nat} (hE : E ≤ E') (hn : NodeC w sid iid cur (N.length * 4) E E' n) : Nodes w sid iid cur B E' (N ++ [n]) := by
  obtain ⟨b, h1, h2, h3, h4⟩ := h
  refine ⟨fun j => if j ≤ N.length then b j else E', by simpa using h1, by simp; intro h; omega, fun i hi => ?_, fun i m hm => ?_⟩
  · simp only [List.length_append, List.length_singleton] at hi
    show (if i ≤ N.length then b i else E') ≤ if i + 1 ≤ N.length then b (i + 1) else E'
    rw [if_pos (by omega)]
    split
    · exact h3 i (by omega)
    · have : i = N.length := by omega
      subst this
      omega
  · show NodeC w sid iid cur (i * 4) (if i ≤ N.length then b i else E') (if i + 1 ≤ N.length then b (i + 1) else E') m
    rcases Nat.lt_or_ge i N.length with hi | hi
    · rw [List.getElem?_append_left hi] at hm
      rw [if_pos (by omega), if_pos (by omega)]
      exact h4 i m hm
    · rw [List.getElem?_append_right hi] at hm
      have hi0 : i - N.length = 0 := by
        have := (List.getElem?_eq_some_iff.1 hm).1
        simp at this
        omega
      rw [hi0] at hm
      obtain rfl : n = m := by simpa using hm
      obtain rfl : i = N.length := by omega
      rw [if_pos (Nat.le_refl _), if_neg (by omega), h2]
      exact hn
end
/-- only blocks from g up to E are written -/
structure Keep' (w w' : World) (g E : Nat) : Prop where
  os : w'.os = w.os
  tape : w'.tape = w.tape
  output : w'.output = w.output
  size : w.heap.size ≤ w'.heap.size
  block : ∀ x, x < w.heap.size → x < g ∨ E ≤ x → w'.heap[x]? = w.heap[x]?
theorem reps_four {α : Type} {R : α → List Value → Prop} : ∀ (l : List α) (vs : List Value), vs.length = l.length * 4 →
    (∀ i x, l[i]? = some x → ∃ a b c d, vs[i * 4]? = some a ∧ vs[i * 4 + 1]? = some b ∧ vs[i * 4 + 2]? = some c ∧ vs[i * 4 + 3]? = some d ∧ R x [a, b, c, d]) → reps R l vs
  | [], vs, h, _ => List.length_eq_zero_iff.1 (by simpa using h)
  | x :: l, vs, h, hx => by
    obtain ⟨a, b, c, d, h0, h1, h2, h3, hr⟩ := hx 0 x rfl
    match vs, h, h0, h1, h2, h3, hx with
    | a' :: b' :: c' :: d' :: vs, h, h0, h1, h2, h3, hx =>
      simp at h0 h1 h2 h3
      subst h0 h1 h2 h3
      refine ⟨[a', b', c', d'], vs, rfl, hr, reps_four l vs (by simp at h; omega) fun i y hy => ?_⟩
      obtain ⟨a, b, c, d, h0, h1, h2, h3, hr⟩ := hx (i + 1) y (by simpa using hy)
      refine ⟨a, b, c, d, ?_, ?_, ?_, ?_, hr⟩
      · rw [show (i + 1) * 4 = i * 4 + 4 by omega] at h0; simpa using h0
      · rw [show (i + 1) * 4 + 1 = i * 4 + 1 + 4 by omega] at h1; simpa using h1
      · rw [show (i + 1) * 4 + 2 = i * 4 + 2 + 4 by omega] at h2; simpa using h2
      · rw [show (i + 1) * 4 + 3 = i * 4 + 3 + 4 by omega] at h3; simpa using h3
    | [], _, h0, _, _, _, _ => simp at h0
    | [_], _, _, h1, _, _, _ => simp at h1
    | [_, _], _, _, _, h2, _, _ => simp at h2
    | [_, _, _], _, _, _, _, h3, _ => simp at h3
abbrev nodeT : T := .pair .bool (.pair (.sl .str) (.pair (.sl .str) (.pair (.sl (.int .i64)) .unit)))
theorem NodeC.rep {w : World} {sid iid : Nat} {cur : Array Value} {o B E : Nat} {n : Nd} (h : NodeC w sid iid cur o B E n) : ∃ a b c d, cur[o]? = some a ∧ cur[o + 1]? = some b ∧ cur[o + 2]? = some c ∧ cur[o + 3]? = some d ∧ Go.Rf.rep w (fun b => b < w.heap.size) nodeT n [a, b, c, d] := by
  obtain ⟨uK, uV, uI, B1, B2, e0, e1, e2, e3, _, _, _, rK, rV, rI, _, _, _⟩ := h
  refine ⟨_, _, _, _, e0, e1, e2, e3, [.bool n.1], [uK, uV, uI], rfl, rfl, [uK], [uV, uI], rfl, ?_, [uV], [uI], rfl, ?_, [uI], [], rfl, ?_, rfl⟩
  · exact rK.rep (e := .str) (f := Value.string) (fun _ => rfl) (fun g hg => (rK.blk hg).2)
  · exact rV.rep (e := .str) (f := Value.string) (fun _ => rfl) (fun g hg => (rV.blk hg).2)
  · exact rI.rep (e := .int .i64) (f := Value.int .i64) (fun _ => rfl) (fun g hg => (rI.blk hg).2)
/-- nodes in memory read as a slice -/
theorem Nodes.rep {w : World} {sid iid tid g : Nat} {cur : Array Value} {B E : Nat} {N : List Nd} (h : Nodes w sid iid cur B E N) (hc : w.heap[g]? = some (.cells cur tid (0, 0))) (hs : cur.size = N.length * 4) :
    Go.Rf.rep w (fun b => b < w.heap.size) (.sl nodeT) N [.slice (some ⟨g, 0, none⟩) N.length N.length] := by
  obtain ⟨b, _, _, _, h4⟩ := h
  refine ⟨some ⟨g, 0, none⟩, N.length, cur.toList, rfl, Nat.le_refl _, reps_four N cur.toList (by simpa using hs) fun i n hn => ?_, fun j u hj => ⟨⟨g, 0, none⟩, rfl, rfl, (Array.getElem?_eq_some_iff.1 hc).1, ?_⟩⟩
  · obtain ⟨a, b, c, d, e0, e1, e2, e3, hr⟩ := (h4 i n hn).rep
    exact ⟨a, b, c, d, by simpa using e0, by simpa using e1, by simpa using e2, by simpa using e3, hr⟩
  · rw [add_mk]
    simpa [World.cell?, hc] using hj
end Go.Rf
end

section
/-! Rf: a function that only reads, asked by hand. -/
set_option autoImplicit false
namespace Go.Rf
open Go.RowKit
section
variable {w w' : World} {Z Z' : Nat → Prop}
theorem ShRep.up (hz : ∀ b, Z b → Z' b) {s : Sh} {x : s.D} {v : Value} {fp : List Nat} (h : ShRep w Z s x v fp) : ShRep w Z' s x v fp := by
  cases s with
  | c s => exact SRep.weaken hz h
  | agg cs => obtain ⟨us, h1, h2⟩ := h; exact ⟨us, h1, h2.weaken hz⟩
  | clo f cs => obtain ⟨us, h1, h2⟩ := h; exact ⟨us, h1, h2.weaken hz⟩
  | box cs => obtain ⟨b, us, e, f, h1, h2, h3, h4⟩ := h; exact ⟨b, us, e, f, h1, h2, h3.weaken hz, h4⟩
theorem ShsRep.up (hz : ∀ b, Z b → Z' b) : ∀ {ss : List Sh} {x : Shs ss} {vs : List Value} {fp : List Nat}, ShsRep w Z ss x vs fp → ShsRep w Z' ss x vs fp
  | [], _, [], _, h => h
  | _ :: _, _, _ :: _, _, ⟨f, g, e, h1, h2⟩ => ⟨f, g, e, h1.up hz, ShsRep.up hz h2⟩
  | [], _, _ :: _, _, h => h.elim
  | _ :: _, _, [], _, h => h.elim
/-- nothing handed over to write: what comes back can be read, what was is as it was -/
theorem ask_read {cx : Cx} {f : Nat} {inp : (cx.spec f).In} {out : (cx.spec f).Out} (hC : Contract cx f inp out) {w : World} {args : List Value} (hr : ShsRep w (fun b => b < w.heap.size) (cx.spec f).ps inp args []) (hG : GL cx w (fun b => b < w.heap.size)) :
    Calls cx.P (f % 1000) args.toArray w fun e w' => ∃ rvs rfp, e = .returned (tupV rvs) ∧ ShsRep w' (fun b => b < w'.heap.size) (cx.spec f).rs out.1 rvs rfp ∧ rfp.Nodup ∧ (∀ b ∈ rfp, w.heap.size ≤ b) ∧ Below w.heap.size w w' := by
  refine (hC w (fun b => b < w.heap.size) args [] hr (by simp) (fun b hb => by cases hb) (fun b hb => hb) hG).mono ?_
  rintro e w' ⟨rvs, Z', rfp, pfp, rfl, hs, _, hnd, hf, _, hZ', hk⟩
  refine ⟨rvs, rfp, rfl, hs.up (fun b hb => (hZ' b hb).1), (List.nodup_append.1 hnd).1, fun b hb => ?_, hk.os, hk.tape, hk.output, hk.size, fun b hlt => hk.block b hlt ?_⟩
  · rcases (hf b (List.mem_append_left _ hb)).2 with h | h
    · cases h
    · exact h
  · rintro (h | h)
    · cases h
    · omega
end
end Go.Rf
end
