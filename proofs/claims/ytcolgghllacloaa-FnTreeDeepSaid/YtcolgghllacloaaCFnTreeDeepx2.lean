/- A part of the proof that the law FnTreeDeep answers true for every input: contracts of functions that it reaches, or its plain law. -/
import Derived.Laws.StructEq
import Derived.Deep.Slices
import Derived.ChangeArms
import Derived.WideShapes
import Derived.Carry
import Derived.Lib.ItoaNum
import Derived.Lib.Repeat
import Derived.Test.YtcolgghllacloaaCFnTreeDeepx0
import Derived.Test.YtcolgghllacloaaCFnTreeDeepx1
set_option autoImplicit false
set_option linter.unusedVariables false
set_option linter.unusedSimpArgs false
section
namespace Go.Rf
open Go.RowKit
section
variable {w w' w'' : World} {Z Z' Z'' : Nat → Prop} {κ κ' : Nat → Option Value}
theorem one_n {e : T} (h : e.one = true) : e.n = 1 := by
 cases e <;> first | rfl | cases h
theorem one_reps {e : T} (he : e.one = true) : ∀ {l : List e.D} {vs : List Value}, reps (rep w Z e) l vs → vs.length = l.length ∧ ∀ (j : Nat) (x : e.D) (u : Value), l[j]? = some x → vs[j]? = some u → rep w Z e x [u]
 | [], vs, h => by
  rw [show vs = [] from h]
  exact ⟨rfl, fun j x u hj => by simp at hj⟩
 | y :: l, vs, ⟨c, d, e1, hy, hl⟩ => by
  have hc := hy.length
  rw [one_n he] at hc
  obtain ⟨i1, i2⟩ := one_reps he hl
  match c, hc with
  | [v], _ =>
   subst e1
   refine ⟨by simp [i1], fun j x u hj hu => ?_⟩
   cases j with
   | zero =>
    simp only [List.getElem?_cons_zero, Option.some.injEq, List.cons_append, List.nil_append] at hj hu
    subst hj hu
    exact hy
   | succ j => exact i2 j x u (by simpa using hj) (by simpa using hu)
theorem SameO.trans : ∀ {cs : List Sc} {a b c : List Value}, SameO cs a b → SameO cs b c → SameO cs a c
 | [], [], [], [], _, _ => trivial
 | .v _ :: ss, _ :: a, _ :: b, _ :: c, h, h' => SameO.trans (cs := ss) (a := a) (b := b) (c := c) h h'
 | .o .. :: ss, _ :: a, _ :: b, _ :: c, h, h' => ⟨h.1.trans h'.1, SameO.trans (cs := ss) (a := a) (b := b) (c := c) h.2 h'.2⟩
 | [], _ :: _, _, _, h, _ => by cases h
 | [], [], _ :: _, _, h, _ => by cases h
 | [], [], [], _ :: _, _, h => by cases h
 | .v _ :: _, [], _, _, h, _ => by cases h
 | .v _ :: _, _ :: _, [], _, h, _ => by cases h
 | .v _ :: _, _ :: _, _ :: _, [], _, h => by cases h
 | .o .. :: _, [], _, _, h, _ => by cases h
 | .o .. :: _, _ :: _, [], _, h, _ => by cases h
 | .o .. :: _, _ :: _, _ :: _, [], _, h => by cases h
theorem SameO.refl : ∀ {cs : List Sc} {x : Dats cs} {us : List Value} {fp : List Nat}, SReps w Z cs x us fp → SameO cs us us
 | [], _, [], _, _ => trivial
 | .v _ :: ss, x, _ :: us, _, ⟨_, _, _, _, h⟩ => SameO.refl (cs := ss) (x := x.2) (us := us) h
 | .o .. :: ss, x, _ :: us, _, ⟨_, _, _, _, h⟩ => ⟨rfl, SameO.refl (cs := ss) (x := x.2) (us := us) h⟩
 | [], _, _ :: _, _, h => h.elim
 | .v _ :: _, _, [], _, h => h.elim
 | .o .. :: _, _, [], _, h => h.elim
theorem next_post : ∀ {sh : List Sh} {d : Shs sh} {p : Post sh}, rshapes sh = true → toPA sh (nextA sh d p) = p
 | [], _, _, _ => rfl
 | .box _ :: sh, d, p, h => by
  have := next_post (sh := sh) (d := d.2) (p := p.2) h
  simp only [toPA, nextA, nextS, toPS, this]
 | .c (.v _) :: sh, d, p, h => by
  have := next_post (sh := sh) (d := d.2) (p := p.2) h
  simp only [toPA, nextA, this]
 | .c (.o ..) :: _, _, _, h => by cases h
 | .agg _ :: _, _, _, h => by cases h
 | .clo .. :: _, _, _, h => by cases h
theorem next_rep (hh : ∀ b, Z b → w'.heap[b]? = w.heap[b]?) (hz : ∀ b, Z b → Z' b) : ∀ {sh : List Sh} {d : Shs sh} {p : Post sh} {vs : List Value} {fp0 fp : List Nat}, rshapes sh = true → ShsRep w Z sh d vs fp0 → PostRep w w' Z' sh p vs fp → ShsRep w' Z' sh (nextA sh d p) vs fp
 | [], _, _, [], _, _, _, _, h => h
 | .box cs :: sh, d, p, v :: vs, _, _, h, ⟨_, _, _, _, h2⟩, ⟨f', g', e, ⟨b, us0, e0, us, e', f1, h3, _, _, h4, h5, h6⟩, h7⟩ =>
  ⟨f', g', e, ⟨b, us, e', f1, h3, h4, h5, h6⟩, next_rep hh hz (sh := sh) h h2 h7⟩
 | .c (.v t) :: sh, d, p, v :: vs, _, _, h, ⟨_, _, _, h1, h2⟩, ⟨f', g', e, h3, h7⟩ => ⟨f', g', e, ⟨h1.1.ext hh hz, h3⟩, next_rep hh hz (sh := sh) h h2 h7⟩
 | .c (.o ..) :: _, _, _, _ :: _, _, _, h, _, _ => by cases h
 | .agg _ :: _, _, _, _ :: _, _, _, h, _, _ => by cases h
 | .clo .. :: _, _, _, _ :: _, _, _, h, _, _ => by cases h
 | [], _, _, _ :: _, _, _, _, h, _ => h.elim
 | _ :: _, _, _, [], _, _, _, h, _ => h.elim
theorem post_refl : ∀ {sh : List Sh} {d : Shs sh} {vs : List Value} {fp : List Nat}, rshapes sh = true → ShsRep w Z sh d vs fp → PostRep w w Z sh (toPA sh d) vs fp
 | [], _, [], _, _, h => h
 | .box cs :: sh, d, v :: vs, _, h, ⟨f', g', e, ⟨b, us, e', f1, h1, h2, h3, h4⟩, h5⟩ => ⟨f', g', e, ⟨b, us, e', us, e', f1, h1, h2, SameO.refl h3, h2, h3, h4⟩, post_refl (sh := sh) h h5⟩
 | .c (.v t) :: sh, d, v :: vs, _, h, ⟨f', g', e, h1, h5⟩ => ⟨f', g', e, h1.2, post_refl (sh := sh) h h5⟩
 | .c (.o ..) :: _, _, _ :: _, _, h, _ => by cases h
 | .agg _ :: _, _, _ :: _, _, h, _ => by cases h
 | .clo .. :: _, _, _ :: _, _, h, _ => by cases h
 | [], _, _ :: _, _, _, h => h.elim
 | _ :: _, _, [], _, _, h => h.elim
theorem post_trans : ∀ {sh : List Sh} {p p' : Post sh} {vs : List Value} {fp fp' : List Nat}, rshapes sh = true → PostRep w w' Z sh p vs fp → PostRep w' w'' Z' sh p' vs fp' → PostRep w w'' Z' sh p' vs fp'
 | [], _, _, [], _, _, _, _, h => h
 | .box cs :: sh, p, p', v :: vs, _, _, h, ⟨_, _, _, ⟨b, us0, e0, us, e', f1, h1, h2, h3, h4, _, _⟩, h5⟩, ⟨f', g', e, ⟨b2, us2, e2, us3, e3, f3, k1, k2, k3, k4, k5, k6⟩, k7⟩ => by
  have hb : b2 = b := by rw [h1] at k1; simpa using k1.symm
  subst hb
  rw [h4] at k2
  cases k2
  exact ⟨f', g', e, ⟨b2, us0, e0, us3, e3, f3, k1, h2, h3.trans k3, k4, k5, k6⟩, post_trans (sh := sh) h h5 k7⟩
 | .c (.v t) :: sh, p, p', v :: vs, _, _, h, ⟨_, _, _, _, h5⟩, ⟨f', g', e, h1, k7⟩ => ⟨f', g', e, h1, post_trans (sh := sh) h h5 k7⟩
 | .c (.o ..) :: _, _, _, _ :: _, _, _, h, _, _ => by cases h
 | .agg _ :: _, _, _, _ :: _, _, _, h, _, _ => by cases h
 | .clo .. :: _, _, _, _ :: _, _, _, h, _, _ => by cases h
 | [], _, _, _ :: _, _, _, _, h, _ => h.elim
 | _ :: _, _, _, [], _, _, _, h, _ => h.elim
end
theorem rndOf_some {sp : Spec} {run : sp.In → Option sp.Out} {r : (e : T) × (ps : List Sh) × (Int → e.D → Shs ps → Option (Post ps))} (h : rndOf sp run = some r) {C : (sp : Spec) → sp.In → sp.Out → Prop} (hC : ∀ inp o, run inp = some o → C sp inp o) :
  sp.ps.length = r.2.1.length + 2 ∧ ∀ i x d p, r.2.2 i x d = some p → ∃ o : Spec.Out ⟨.c (.v (.int .i64)) :: .c (.v r.1) :: r.2.1, []⟩, o.2.2.2 = p ∧ C ⟨.c (.v (.int .i64)) :: .c (.v r.1) :: r.2.1, []⟩ (i, x, d) o := by
 unfold rndOf at h
 split at h
 ·cases h
  refine ⟨rfl, fun i x d p hp => ?_⟩
  obtain ⟨o, h1, h2⟩ := Option.bind_eq_some_iff.1 hp
  cases h2
  exact ⟨o, rfl, hC _ _ h1⟩
 ·cases h
theorem allLt_iff {n : Nat} : ∀ {l : List Nat}, allLt n l = true → ∀ t ∈ l, t < n
 | [], _, _, h => by cases h
 | x :: l, h, t, ht => by
  simp only [allLt, Bool.and_eq_true] at h
  rcases List.mem_cons.1 ht with rfl | ht
  ·exact Nat.lt_of_lt_of_le (Nat.lt_succ_self _) (Nat.le_of_ble_eq_true h.1)
  ·exact allLt_iff h.2 t ht
theorem drop_cons {α : Type} : ∀ {l : List α} {k : Nat} {x : α}, l[k]? = some x → l.drop k = x :: l.drop (k + 1)
 | [], k, x, h => by simp at h
 | y :: l, 0, x, h => by simp at h; simp [h]
 | y :: l, k + 1, x, h => by simpa using drop_cons (l := l) (k := k) (by simpa using h)
section
variable {cx : Cx} {w0 w w' : World} {Z0 Z Z' : Nat → Prop} {own : Nat → Prop} {H : (Nat → Option Value) → Prop} {s : St} {a : Act} {κ κ' : Nat → Option Value} {tb : Tb} {α : Type} {r : α}
 {call : (g : Nat) → (cx.spec g).In → Option (cx.spec g).Out}
theorem envAVs_ok (hR : Rel cx w0 Z0 own H s a w Z κ) : ∀ l : List Nat, All2 (avrep w Z κ) (envAVs cx s l) (l.map fun t => a.tmps.getD t Go.undef)
 | [] => trivial
 | t :: l => ⟨opAV_ok hR (.tmp t), envAVs_ok hR l⟩
theorem range_ok (G : Good cx) (hcall : ∀ g inp out, call g inp = some out → Contract cx g inp out) {f : Nat} {rnds : (p : Nat) → List It → St → Option (cx.spec p).Out}
  (hrnds : ∀ (p : Nat) (its : List It) (s : St) (out : (cx.spec p).Out) (l : Nat) (fn : Func) (w0 : World) (Z0 : Nat → Prop) (args : List Value) (fp : List Nat) (a : Act) (w : World) (Z : Nat → Prop) (κ : Nat → Option Value), isRound p = true → rnds p its s = some out → RelF cx p w0 Z0 args fp s a w Z κ → Reach cx.P fn (some l) (Ans cx p out w0 Z0 args fp) its a w)
  (ho : ∀ b, w0.heap.size ≤ b → own b) (hup : Up H) {g : Operand} {ps : Array Tmp} {asg body : Code} {κf : Tb → Option α} (h : rangeK cx f rnds call g ps.toList asg body s κf = some r) (hR : Rel cx w0 Z0 own H s a w Z κ) (b : Frame) (hb : b.roundOf = none) (k : List Item) (cs : List Frame) :
  ∃ tb' a' w' Z' κ', Rel cx w0 Z0 own H ⟨s.env, tb', s.n⟩ a' w' Z' κ' ∧ κf tb' = some r ∧ Steps cx.P (lone (b.atR a (.code (.rangeFunc g ps asg body) :: k)) cs w) (lone (b.atR a' k) cs w') := by
 unfold rangeK at h
 obtain ⟨-, h⟩ : isRound f = false ∧ _ := by
  cases hf : isRound f with
  | true => rw [hf] at h; cases h
  | false => rw [hf] at h; exact ⟨rfl, h⟩
 split at h
 case h_2 => cases h
 rename_i t1 t2 hps
 split at h
 case h_2 => cases h
 rename_i p hrng
 split at h
 case h_2 => cases h
 rename_i u1 u2 tms htms
 obtain ⟨hchk, h⟩ := cond_some h
 simp only [Bool.and_eq_true] at hchk
 obtain ⟨⟨⟨⟨⟨⟨hip, hu1⟩, hu2⟩, hnk⟩, hlt⟩, hlen⟩, hnt⟩ := hchk
 have hu1 := beq_eq hu1
 have hu2 := beq_eq hu2
 have hlen := beq_eq hlen
 subst hu1 hu2
 have hlt := allLt_iff hlt
 have hnt := nodup_iff.1 hnt
 split at h
 case h_2 => cases h
 rename_i R hRnd
 obtain ⟨hsh, h⟩ := cond_some h
 simp only [Bool.and_eq_true] at hsh
 obtain ⟨hone, hsh⟩ := hsh
 split at h
 case h_2 => cases h
 rename_i kl hbk
 obtain ⟨hnble, h⟩ := chk_some h
 have hn := Nat.le_of_ble_eq_true hnble
 clear hnble
 unfold loopK at h
 obtain ⟨hkk, h⟩ := cond_some h
 simp only [Bool.and_eq_true, Bool.not_eq_true', emptyL_iff] at hkk
 obtain ⟨⟨hkeys, hkn⟩, hF⟩ := hkk
 obtain ⟨d0, hd0, h⟩ := Option.bind_eq_some_iff.1 h
 obtain ⟨d1, hd1, hκf⟩ := Option.bind_eq_some_iff.1 h
 obtain ⟨e, sh, rnd⟩ := R
 simp only at hone hsh hd1 hkeys hkn hF hd0 hκf
 obtain ⟨kB, l00⟩ := kl
 simp only at hn hd1 hkn
 have hv := envAVs_ok hR tms
 have hown : ∀ b, w.heap.size ≤ b → own b := fun b hb => ho b (Nat.le_trans hR.keep.size hb)
 obtain ⟨hrep, hfnd, hfp, hZlt, hlL, main⟩ := call_core (sp := ⟨sh, []⟩) (inp := d0) (out := ((), toPA sh d1)) (d := 0) hR.tr hown hv hkeys (fun k hk => by cases hk) rfl List.nodup_nil (.inl hF) (fun h => by simp [Spec.perm] at h) hd0
 have hpl : plus Z κ (keysA s.tb sh (envAVs cx s tms)).2 = Z := by rw [hF]; funext b; simp [plus]
 simp only [hpl] at hrep hfp hZlt main
 generalize hLk : kb κ (keysA s.tb sh (envAVs cx s tms)).1 = fp0 at *
 generalize hus : (tms.map fun t => a.tmps.getD t Go.undef) = us at *
 unfold backAt at hbk
 have hg := opAV_ok hR g
 split at hbk
 case h_2 => cases hbk
 rename_i g1 kk hgv
 obtain ⟨hit, hbk⟩ := cond_some hbk
 split at hbk
 case h_2 => cases hbk
 rename_i cB hbox
 obtain ⟨l0, hcell, hbk⟩ := Option.bind_eq_some_iff.1 hbk
 simp only [Option.some.injEq, Prod.mk.injEq] at hbk
 obtain ⟨rfl, rfl⟩ := hbk
 rw [hgv] at hg
 obtain ⟨ug, hgval, hgc⟩ := hg
 obtain ⟨B, hκB, hug⟩ : ∃ B, κ kk = some (.pointer (some ⟨B, 0, none⟩)) ∧ ug = #[.pointer (some ⟨B, 0, none⟩)] := by
  obtain ⟨ul⟩ := ug
  match ul, hgc with
  | [u], hgc =>
   obtain ⟨B, h1, h2⟩ := hgc.1
   rw [add_mk] at h2
   exact ⟨B, h1, by rw [h2]⟩
  | [], hgc => exact hgc.elim
  | _ :: _ :: _, hgc => exact hgc.2.elim
 subst hug
 obtain ⟨vB, hvB, B', usB, TB, e1, hhB, hallB⟩ := hR.tr.box kk _ hbox
 rw [hκB] at hvB
 cases hvB
 cases e1
 obtain ⟨A, cap, vs, hslice, hcap, hreps, hcells⟩ : ∃ A cap vs, usB = #[.slice A l0.length cap] ∧ l0.length ≤ cap ∧ reps (rep w Z e) l0 vs ∧ ∀ (j : Nat) (u : Value), vs[j]? = some u → ∃ a : Addr, A = some a ∧ a.spot = none ∧ Z a.block ∧ w.cell? (a.add j) = some u := by
  obtain ⟨ul⟩ := usB
  match ul, hallB with
  | [u], hallB =>
   have hc := hallB.1
   cases cB with
   | val t x =>
    simp only [cell] at hcell
    split at hcell
    ·rename_i ht
     subst ht
     cases hcell
     obtain ⟨A, cap, vs, e1, e2, e3, e4⟩ := hc
     cases e1
     exact ⟨A, cap, vs, rfl, e2, e3, e4⟩
    ·cases hcell
   | nils =>
    simp only [cell] at hcell
    cases hcell
    exact ⟨none, 0, [], by rw [show u = _ from hc]; rfl, Nat.le_refl _, rfl, fun j u hj => by simp at hj⟩
   | _ => simp [cell] at hcell
  | [], hallB => exact hallB.elim
  | _ :: _ :: _, hallB => exact hallB.2.elim
 subst hslice
 obtain ⟨hvl, hone2⟩ := one_reps hone hreps
 have hlB : B < w.heap.size := (Array.getElem?_eq_some_iff.1 hhB).1
 have hBfp : B ∉ fp0 := by
  rw [← hLk]
  intro hm
  obtain ⟨k', hk', v', hkv', hbv'⟩ := mem_kb.1 hm
  have := hR.tr.sep k' kk v' _ B (hlL k' hk') (.inr ⟨_, hbox⟩) hkv' hκB hbv' rfl
  subst this
  rw [inl_iff.2 hk'] at hkn
  cases hkn
 obtain ⟨hiter, hinv⟩ := G.iter g1 hit
 obtain ⟨rec, hrec⟩ : ∃ rec : Loop, rec = { state := .ready, pending := none, fn := b.fn, tmps := a.tmps, params := ps, assign := asg, body := body, defers := w.heap.size } := ⟨_, rfl⟩
 obtain ⟨W1, hW1⟩ : ∃ W1, (w.alloc (.deferred (some []))).alloc (.loop rec) = W1 := ⟨_, rfl⟩
 have hL1 : W1.heap[w.heap.size + 1]? = some (.loop rec) := by
  rw [← hW1]; have := World.alloc_heap_new (w.alloc (.deferred (some []))) (.loop rec); rwa [World.size_alloc] at this
 have hD1 : W1.heap[w.heap.size]? = some (.deferred (some [])) := by
  rw [← hW1]; exact (Below.heap_alloc _ _ _ (by simp)).trans (World.alloc_heap_new w _)
 have hgr : w.grownBy W1 none := by rw [← hW1]; exact grown_trans (grown_alloc _) (grown_alloc _)
 have hsm1 : Same w W1 := by rw [← hW1]; exact (Same.alloc _).trans (Same.alloc _)
 let J : Nat → World → Prop := fun k W => ∃ d Zk fpk, backK e sh rnd (l0.reverse.drop k) d = some d1 ∧ ShsRep W Zk sh d us fpk ∧ PostRep w W Zk sh (toPA sh d) us fpk ∧ fpk.Nodup ∧ (∀ b ∈ fpk, ¬ Zk b ∧ b < W.heap.size ∧ (b ∈ fp0 ∨ w.heap.size ≤ b)) ∧ (∀ b, Z b → Zk b) ∧
  (∀ b, Zk b → b < W.heap.size ∧ (Z b ∨ b ∈ fp0 ∨ w.heap.size ≤ b)) ∧ Keep w W (fun b => b ∈ fp0 ∨ w.heap.size ≤ b) ∧ W.heap[w.heap.size + 1]? = some (.loop rec) ∧ W.heap[w.heap.size]? = some (.deferred (some []))
 have hKh : ∀ {W : World}, Keep w W (fun b => b ∈ fp0 ∨ w.heap.size ≤ b) → ∀ b, b < w.heap.size → b ∉ fp0 → W.heap[b]? = w.heap[b]? := fun hK b hb hn => hK.block b hb (fun h => h.elim hn (fun h => by omega))
 have hZfp : ∀ b, Z b → b ∉ fp0 := fun b hz hm => (hfp b hm).1 hz
 have hJ0 : J 0 W1 := ⟨d0, Z, fp0, by simpa using hd1, hrep.same hsm1, (post_refl hsh hrep).same (Same.refl _) hsm1, hfnd, fun b hb => ⟨(hfp b hb).1, Nat.lt_of_lt_of_le (hfp b hb).2 hsm1.size, .inl hb⟩, fun _ h => h, fun b hb => ⟨Nat.lt_of_lt_of_le (hZlt b hb) hsm1.size, .inl hb⟩, Keep.of_grown hgr, hL1, hD1⟩
 obtain ⟨hspl, hrc⟩ := rndOf_some hRnd (C := RoundC cx (w.heap.size + 1) rec (t1 :: t2 :: tms) s.n) (by
  intro inp o hrun
  have := round_ok (p := p) (rnds := rnds p) (L := w.heap.size + 1) (n := s.n) (rec := rec) G hcall (fun its s out l fn w0 Z0 args fp a w Z κ => hrnds p its s out l fn w0 Z0 args fp a w Z κ hip) (by rw [hrec]) (by rw [hrec]) (by rw [htms]; exact hnk) (by rw [htms]; exact hlt) (by rw [htms]; simpa using hlen) inp o
   (by rw [htms]; rw [hrec]; exact hrun)
  rw [htms] at this
  exact this)
 have hcalls := hiter B TB A cap vs (w.heap.size + 1) J W1 (by rw [hvl]; exact hcap) (by rw [hvl]; exact hn)
  (fun k W hJ => by
   obtain ⟨d, Zk, fpk, _, _, _, _, _, _, _, hK, _, _⟩ := hJ
   refine ⟨by rw [hKh hK B hlB hBfp, hhB, hvl], fun j u hj => ?_⟩
   obtain ⟨a', h1, h2, h3, h4⟩ := hcells j u hj
   exact ⟨a', h1, h2, (cell_block (by rw [add_block]; exact hKh hK _ (hZlt _ h3) (hZfp _ h3))).trans h4⟩)
  (fun k W u hJ hk hu => by
   obtain ⟨d, Zk, fpk, hbd, hsr, hpr, hfn, hfk, hzk, hzl, hK, hL, hD⟩ := hJ
   obtain ⟨x, hx⟩ : ∃ x, l0[vs.length - 1 - k]? = some x := ⟨l0[vs.length - 1 - k]'(by omega), List.getElem?_eq_getElem (by omega)⟩
   have hxr : l0.reverse[k]? = some x := by
    rw [List.getElem?_reverse (by omega), ← hvl]
    exact hx
   rw [drop_cons hxr] at hbd
   simp only [backK] at hbd
   obtain ⟨pp, hpp, hbd⟩ := Option.bind_eq_some_iff.1 hbd
   have hlen2 : ((l0.reverse.drop (k + 1)).length : Int) = ((vs.length - 1 - k : Nat) : Int) := by simp; omega
   rw [hlen2] at hpp
   obtain ⟨o, ho2, hC⟩ := hrc _ _ _ _ hpp
   have hy := run_yield (P := cx.P) (args := #[.int .i64 ((vs.length - 1 - k : Nat) : Int), u]) hL (by rw [hrec]; show 2 = ps.size; rw [← Array.length_toList, hps]; rfl)
   have hpsa : ps = #[t1, t2] := by rw [← Array.toArray_toList (xs := ps), hps]
   have ht1 : t1 < a.tmps.size := by rw [hR.n]; exact hlt t1 (by simp)
   have ht2 : t2 < a.tmps.size := by rw [hR.n]; exact hlt t2 (by simp)
   have hne : t1 ≠ t2 := by simp at hnt; exact hnt.1.1
   have hZW : ∀ b, Z b → W.heap[b]? = w.heap[b]? := fun b hz => hKh hK b (hZlt b hz) (hZfp b hz)
   have hru : rep W Zk e x [u] := (hone2 _ x u hx hu).ext hZW hzk
   refine ⟨_, _, _, _, hy, trivial, fun c cs _ => ?_⟩
   obtain ⟨W', v, hA, hst⟩ := hC W Zk (.int .i64 ((vs.length - 1 - k : Nat) : Int) :: u :: us) fpk ((rec.params.zip #[.int .i64 ((vs.length - 1 - k : Nat) : Int), u]).foldl (fun t (x : Tmp × Value) => t.setIfInBounds x.1 x.2) rec.tmps) c cs hL
    ⟨[], fpk, rfl, ⟨rfl, rfl⟩, [], fpk, rfl, ⟨hru, rfl⟩, hsr⟩ hfn (fun b hb => ⟨(hfk b hb).1, (hfk b hb).2.1⟩) (fun b hb => (hzl b hb).1)
    (hR.gl.ext hZW hzk) (by rw [hrec, hpsa]; simp [hR.n])
    (fun j t v' hj hv' => by
     rw [hrec, hpsa]
     simp only [List.zip_toArray, List.zip_cons_cons, List.zip_nil_right, List.foldl_toArray', List.foldl_cons, List.foldl_nil, Array.getD_eq_getD_getElem?]
     cases j with
     | zero =>
      simp only [List.getElem?_cons_zero, Option.some.injEq] at hj hv'
      subst hj hv'
      rw [Array.getElem?_setIfInBounds_ne (Ne.symm hne), Array.getElem?_setIfInBounds_self_of_lt ht1]
      rfl
     | succ j => cases j with
      | zero =>
       simp only [List.getElem?_cons_succ, List.getElem?_cons_zero, Option.some.injEq] at hj hv'
       subst hj hv'
       simp [ht2]
      | succ j =>
       simp only [List.getElem?_cons_succ] at hj hv'
       have hm : t ∈ tms := List.mem_of_getElem? hj
       simp only [List.nodup_cons, List.mem_cons, not_or] at hnt
       rw [Array.getElem?_setIfInBounds_ne (fun e => hnt.2.1 (by rw [e]; exact hm)), Array.getElem?_setIfInBounds_ne (fun e => hnt.1.2 (by rw [e]; exact hm)), ← Array.getD_eq_getD_getElem?]
       rw [← hus, List.getElem?_map, hj] at hv'
       simpa using hv')
   obtain ⟨rvs, Z', rfp, pfp, e1, e2, ⟨f1, g1', e3, h31, f2, g2, e4, h41, hpost⟩, e5, e6, e7, e8, e9⟩ := hA
   obtain rfl : f1 = [] := h31
   obtain rfl : f2 = [] := h41
   simp only [List.nil_append] at e3 e4
   subst e3 e4
   obtain ⟨rfl, rfl⟩ : rvs = [] ∧ rfp = [] := by
    cases rvs with
    | nil => exact ⟨rfl, e2⟩
    | cons _ _ => exact e2.elim
   simp only [List.nil_append] at e5 e6
   rw [ho2] at hpost
   have hKW : Keep w W' (fun b => b ∈ fp0 ∨ w.heap.size ≤ b) := by
    refine ⟨e9.os.trans hK.os, e9.tape.trans hK.tape, e9.output.trans hK.output, Nat.le_trans hK.size e9.size, fun b hb hnb => ?_, fun b o hb ho => e9.other b o (hK.other b o hb ho) ho⟩
    refine (e9.block b (Nat.lt_of_lt_of_le hb hK.size) (fun hh => ?_)).trans (hK.block b hb hnb)
    rcases hh with hh | hh
    ·exact hnb (hfk b hh).2.2
    ·have := hK.size; omega
   have hWW : ∀ b, Zk b → W'.heap[b]? = W.heap[b]? := fun b hz => e9.block b (hzl b hz).1 (fun hh => hh.elim (fun h => (hfk b h).1 hz) (fun h => by have := (hzl b hz).1; omega))
   refine ⟨.returned (.bool true), W', ⟨rfl, nextA sh d pp, Z', _, hbd, next_rep hWW e7 hsh hsr hpost, ?_, e5, fun b hb => ⟨(e6 b hb).1, ?_, ?_⟩, fun b hb => e7 b (hzk b hb), fun b hb => ⟨(e8 b hb).1, ?_⟩, hKW, e9.other _ _ hL rfl, e9.other _ _ hD rfl⟩, comesIn_wide.2 hst⟩
   ·rw [next_post hsh]
    exact post_trans hsh hpr hpost
   ·exact shs_lt (next_rep hWW e7 hsh hsr hpost) b hb
   ·rcases (e6 b hb).2 with hh | hh
    ·exact (hfk b hh).2.2
    ·exact .inr (Nat.le_trans hK.size hh)
   ·rcases (e8 b hb).2 with hh | hh | hh
    ·exact (hzl b hh).2
    ·exact .inr (hfk b hh).2.2
    ·exact .inr (.inr (Nat.le_trans hK.size hh)))
  hJ0
 have he := run_enterLoop_outer (P := cx.P) (w := w) b.fn a.tmps ps asg body
 rw [← hrec, hW1, ← hb] at he
 have hres : (resolve a.eval (rangeCall g (w.heap.size + 1)) 0).run cx.P W1 = .ok { target := .fn (.func g1) #[.pointer (some ⟨B, 0, none⟩)], args := #[.func (.yield (w.heap.size + 1)) #[] #[]] } W1 := by
  simp only [resolve, hgval]
  simp [go_sem]
 have hinv2 : (invoke (.fn (.func g1) #[.pointer (some ⟨B, 0, none⟩)]) #[.func (.yield (w.heap.size + 1)) #[] #[]]).run cx.P W1 = .ok (.enter g1 #[.func (.yield (w.heap.size + 1)) #[] #[], .pointer (some ⟨B, 0, none⟩)]) W1 := by
  simp [invoke, go_sem, hinv]
 have st1 := stepR_rangeFunc (P := cx.P) (b := b) (a := a) (k := k) (cs := cs) (w := w) he hres hinv2
 obtain ⟨en, W2, fr, ⟨⟨v, rfl⟩, hJn⟩, hsteps, hfn, hleave⟩ := hcalls (b.atR { a with defers := [{ target := .collected w.heap.size, args := #[] }] ++ a.defers } (.inRangeFunc (w.heap.size + 1) :: k) :: cs)
 have st2 := step_leave_returned (P := cx.P) (c := b.atR { a with defers := [{ target := .collected w.heap.size, args := #[] }] ++ a.defers } (.inRangeFunc (w.heap.size + 1) :: k)) (cs := cs) hleave
 rw [finish_atR_inRangeFunc] at st2
 obtain ⟨d, Zk, fpk, hbd, hsr, hpr, hfn2, hfk, hzk, hzl, hK, hL, hD⟩ := hJn
 have hnil : l0.reverse.drop vs.length = [] := by rw [hvl]; simp
 rw [hnil] at hbd
 simp only [backK, Option.some.injEq] at hbd
 subst hbd
 have hpe : rec.pending = none := by rw [hrec]
 have hel : (Instr.endLoop (w.heap.size + 1)).run cx.P W2 = .ok none (W2.putObj (w.heap.size + 1) (.loop { rec with state := .exhausted })) := by
  rw [run_endLoop hL (by rw [hrec]; simp), hpe]
 have st3 := stepR_endRangeFunc (P := cx.P) (b := b) (a := { a with defers := [{ target := .collected w.heap.size, args := #[] }] ++ a.defers }) (k := k) (cs := cs) hel
 have hs4 : Same W2 (W2.putObj (w.heap.size + 1) (.loop { rec with state := .exhausted })) := Same.putObj hL rfl
 have hK4 : Keep w (W2.putObj (w.heap.size + 1) (.loop { rec with state := .exhausted })) (fun b => b ∈ fp0 ∨ w.heap.size ≤ b) := hK.putObj (by omega)
 obtain ⟨u, _, Z1, κ1, hx, hzo, _, hTR, _, _⟩ := main (.returned (tupV [])) (W2.putObj (w.heap.size + 1) (.loop { rec with state := .exhausted }))
  ⟨[], Zk, [], fpk, rfl, rfl, hpr.same (Same.refl _) hs4, by simpa using hfn2, fun b hb => ⟨(hfk b (by simpa using hb)).1, (hfk b (by simpa using hb)).2.2⟩, hzk, fun b hb => ⟨by simpa using (hzl b hb).1, (hzl b hb).2⟩, hK4⟩
 obtain ⟨Ds, hDs, hDn, hDD⟩ := hR.defers
 have hDlt : ∀ D ∈ Ds, D < w.heap.size := fun D hD => (Array.getElem?_eq_some_iff.1 (hDD D hD).2).1
 have hKo : Keep w (W2.putObj (w.heap.size + 1) (.loop { rec with state := .exhausted })) own := ⟨hK4.os, hK4.tape, hK4.output, hK4.size, fun b hb hnb => hK4.block b hb (fun hh => hh.elim (fun hm => hnb (by
  rw [← hLk] at hm
  obtain ⟨k', hk', v', hkv', hbv'⟩ := mem_kb.1 hm
  exact (hR.tr.away k' v' b (hlL k' hk') hkv' hbv').2)) (fun h => by omega)), hK4.other⟩
 refine ⟨_, { a with defers := [{ target := .collected w.heap.size, args := #[] }] ++ a.defers }, _, Z1, κ1, ⟨hTR, hR.n, fun t v ht => ⟨(hR.env t v ht).1, (hR.env t v ht).2.ext hx⟩, ⟨w.heap.size :: Ds, by rw [hDs]; rfl, List.nodup_cons.2 ⟨fun hm => by have := hDlt _ hm; omega, hDn⟩, fun D hD => ?_⟩, hR.gl.ext hx.heap hx.z, hR.keep.trans hKo, fun b hb => hx.z b (hR.z0 b hb), fun b hb => (hzo b hb).elim (hR.zown b) .inr, hup κ κ1 hx.k hR.home⟩, hκf, ?_⟩
 ·rcases List.mem_cons.1 hD with rfl | hD
  ·exact ⟨hR.keep.size, (World.putObj_heap_other (by omega)).trans ‹_›⟩
  ·exact ⟨(hDD D hD).1, hK4.other D _ (hDD D hD).2 rfl⟩
 ·exact Steps.trans (.one st1) (Steps.trans hsteps (Steps.trans (.one st2) (.one st3)))
end
end Go.Rf
end

section
namespace Go.Rf
open Go.RowKit
theorem dropTo_ok {id : Nat} {k : List Item} : ∀ {l m : List It}, dropTo id l = some m → exitTo id (l.map It.item ++ k) = some (m.map It.item ++ k)
 | [], _, h => by cases h
 | .inBlock n :: l, m, h => by
  simp only [dropTo] at h
  rcases beq_cases n id with ⟨h1, h2⟩ | ⟨h1, h2⟩
  ·rw [h1] at h
   cases h
   simp [It.item, exitTo, h2]
  ·rw [h1] at h
   have := dropTo_ok (k := k) (l := l) h
   simp [It.item, exitTo, h2, this]
 | .code _ :: l, m, h => dropTo_ok (l := l) h
 | .now _ _ _ :: l, m, h => dropTo_ok (l := l) h
 | .inLoop _ :: l, m, h => dropTo_ok (l := l) h
section
variable {cx : Cx} {w0 w w' : World} {Z0 Z Z' : Nat → Prop} {s : St} {a : Act} {κ κ' : Nat → Option Value}
theorem fin_close (G : Good cx) {f : Nat} {fn : Func} {args : List Value} {fp : List Nat} {out : (cx.spec f).Out} (h : fin cx f fn.results.toList s = some out) (hR : RelF cx f w0 Z0 args fp s a w Z κ) :
  ∃ w'' v, Closes a.defers w w'' ∧ (results fn a.tmps).run cx.P w'' = .ok v w'' ∧ Ans cx f out w0 Z0 args fp (.returned v) w'' := by
 obtain ⟨Ds, hDs, hDn, hDD⟩ := hR.defers
 obtain ⟨w'', h1, h2, h3⟩ := closes_of hDn hDD hR.keep
 have hR2 := hR.sameW (ds := []) h2 h3 DefOk.nil
 obtain ⟨v, h4, h5⟩ := fin_ok G h hR2
 exact ⟨w'', v, by rw [hDs]; exact h1, h4, h5⟩
theorem runN_ok (G : Good cx) {f : Nat} {fn : Func} {args : List Value} {fp : List Nat} {call : (g : Nat) → (cx.spec g).In → Option (cx.spec g).Out} (hcall : ∀ g inp out, call g inp = some out → Contract cx g inp out)
  {ro : Option Nat} (hro : isRound f = ro.isSome) {rs : List ResultVar} (hrs : rs = match ro with | none => fn.results.toList | some _ => [])
  {prev : List It → St → Option (cx.spec f).Out} {out : (cx.spec f).Out} {rnds : (p : Nat) → List It → St → Option (cx.spec p).Out}
  (hprev : ∀ its s a w Z κ, prev its s = some out → RelF cx f w0 Z0 args fp s a w Z κ → Reach cx.P fn ro (Ans cx f out w0 Z0 args fp) its a w)
  (hrnds : ∀ (p : Nat) (its : List It) (s : St) (out : (cx.spec p).Out) (l : Nat) (fn : Func) (w0 : World) (Z0 : Nat → Prop) (args : List Value) (fp : List Nat) (a : Act) (w : World) (Z : Nat → Prop) (κ : Nat → Option Value), isRound p = true → rnds p its s = some out → RelF cx p w0 Z0 args fp s a w Z κ → Reach cx.P fn (some l) (Ans cx p out w0 Z0 args fp) its a w) :
  ∀ (n : Nat) (its : List It) (s : St) (a : Act) (w : World) (Z : Nat → Prop) (κ : Nat → Option Value), runN cx f rs prev rnds call n its s = some out → RelF cx f w0 Z0 args fp s a w Z κ → Reach cx.P fn ro (Ans cx f out w0 Z0 args fp) its a w := by
 have ho : ∀ b, w0.heap.size ≤ b → (b ∈ fp ∨ w0.heap.size ≤ b) := fun _ h => .inr h
 intro n
 induction n with
 | zero => intro its s a w Z κ h; cases h
 | succ n ih =>
  intro its s a w Z κ h hR
  have reg : ∀ {id : Nat} {ops : Array Oper} {draw : Bool} {l : List It} {i0 : It}, i0.item = .code (.region id ops draw) → (bif isRound f && !(noDefer ops.toList) then none else region cx call ops draw s (fun s => runN cx f rs prev rnds call n l s)) = some out →
    Reach cx.P fn ro (Ans cx f out w0 Z0 args fp) (i0 :: l) a w := by
   intro id ops draw l i0 hi hr b k cs hb hk
   have hd : ro = none ∨ noDefer ops.toList = true := by
    cases ro with
    | none => exact .inl rfl
    | some l =>
     rw [hro] at hr
     cases hn : noDefer ops.toList with
     | true => exact .inr rfl
     | false => rw [hn] at hr; cases hr
   have hr2 : region cx call ops draw s (fun s => runN cx f rs prev rnds call n l s) = some out := by
    cases hb : (isRound f && !(noDefer ops.toList)) with
    | true => rw [hb] at hr; cases hr
    | false => rw [hb] at hr; exact hr
   obtain ⟨s', a', w', Z', κ', h1, h2, h3⟩ := regionR_ok (id := id) G up_home ho hcall hd hr2 hR b hb (l.map It.item ++ k) cs
   obtain ⟨m, h4, h5⟩ := ih l s' a' w' Z' κ' h2 h1 b k cs hb hk
   refine ⟨m, h4, ?_⟩
   rw [List.map_cons, hi]
   exact h3.trans h5
  cases its with
  | nil =>
   intro b k cs hb hk
   cases ro with
   | none =>
    obtain rfl := hk rfl
    subst hrs
    obtain ⟨w'', v, h0, h1, h2⟩ := fin_close G h hR
    exact ⟨_, ⟨a, w, w'', _, v, h0, h1, h2, rfl⟩, .one (stepR_end hb)⟩
   | some l =>
    subst hrs
    obtain ⟨v, h1, h2⟩ := fin_ok (fn := { fn with results := #[] }) G h hR
    exact ⟨_, ⟨a, w, v, h2, rfl⟩, .refl _ _⟩
  | cons it l =>
   cases it with
   | now id ops draw =>
    simp only [runN] at h
    exact reg (id := id) rfl h
   | inLoop c =>
    simp only [runN] at h
    exact Reach.step (its' := .code c :: .inLoop c :: l) (fun b k cs _ => .one stepR_inLoop) (ih _ _ _ _ _ _ h hR)
   | inBlock id =>
    simp only [runN] at h
    exact Reach.step (its' := l) (fun b k cs _ => .one stepR_inBlock) (ih _ _ _ _ _ _ h hR)
   | code c =>
    cases c with
    | skip =>
     simp only [runN] at h
     exact Reach.step (its' := l) (fun b k cs _ => .one stepR_skip) (ih _ _ _ _ _ _ h hR)
    | ret =>
     simp only [runN] at h
     cases ro with
     | none =>
      rw [show isRound f = false from hro] at h
      subst hrs
      obtain ⟨w'', v, h0, h1, h2⟩ := fin_close G h hR
      intro b k cs hb hk
      exact ⟨_, ⟨a, w, w'', _, v, h0, h1, h2, rfl⟩, .one (stepR_ret hb)⟩
     | some l =>
      rw [show isRound f = true from hro] at h
      cases h
    | seq x y =>
     simp only [runN] at h
     exact Reach.step (its' := .code x :: .code y :: l) (fun b k cs _ => .one stepR_seq) (ih _ _ _ _ _ _ h hR)
    | cond c x y =>
     simp only [runN] at h
     obtain ⟨t, e, h1⟩ := boolK_some h
     have hv := opAV_ok hR c
     rw [e] at hv
     have hv1 : [a.eval c] = [.bool t] := hv
     have hc : a.eval c = .bool t := (List.cons.inj hv1).1
     cases t with
     | true =>
      rw [if_pos rfl] at h1
      exact Reach.step (its' := .code x :: l) (fun b k cs _ => .one (stepR_cond hc)) (ih _ _ _ _ _ _ h1 hR)
     | false =>
      rw [if_neg (by simp)] at h1
      exact Reach.step (its' := .code y :: l) (fun b k cs _ => .one (stepR_cond hc)) (ih _ _ _ _ _ _ h1 hR)
    | block id c =>
     simp only [runN] at h
     exact Reach.step (its' := .code c :: .inBlock id :: l) (fun b k cs _ => .one stepR_block) (ih _ _ _ _ _ _ h hR)
    | loop c =>
     simp only [runN] at h
     exact Reach.step (its' := .code c :: .inLoop c :: l) (fun b k cs _ => .one stepR_loop) (ih _ _ _ _ _ _ h hR)
    | exit id =>
     simp only [runN] at h
     split at h
     ·rename_i m hm
      exact Reach.step (its' := m) (fun b k cs _ => .one (stepR_exit (dropTo_ok hm))) (ih _ _ _ _ _ _ h hR)
     ·cases h
    | region id ops draw =>
     simp only [runN] at h
     split at h
     ·rename_i lc hcut
      obtain ⟨hk, h1⟩ := cond_some h
      obtain ⟨x, hx, h2⟩ := Option.bind_eq_some_iff.1 h1
      obtain ⟨Z', κ', hR'⟩ := cut_ok hR hk hx
      exact Reach.step (its' := .now id ops draw :: l) (fun b k cs _ => .refl _ _) (hprev _ _ _ _ _ _ h2 hR')
     ·exact reg (id := id) rfl h
    | rangeFunc g ps asg body =>
     simp only [runN] at h
     intro b k cs hb hk
     have hf : isRound f = false := by
      cases hf : isRound f with
      | false => rfl
      | true => unfold rangeK at h; rw [hf] at h; cases h
     obtain rfl : ro = none := by cases ro with
      | none => rfl
      | some l => rw [hf] at hro; cases hro
     obtain ⟨tb', a', w', Z', κ', h1, h2, h3⟩ := range_ok G hcall hrnds ho up_home h hR b hb (l.map It.item ++ k) cs
     obtain ⟨m, h4, h5⟩ := ih l _ a' w' Z' κ' h2 h1 b k cs hb hk
     exact ⟨m, h4, h3.trans h5⟩
    | _ => simp [runN] at h
theorem ShsRep.length : ∀ {ss : List Sh} {x : Shs ss} {vs : List Value} {fp : List Nat}, ShsRep w Z ss x vs fp → vs.length = ss.length
 | [], _, [], _, _ => rfl
 | _ :: _, _, _ :: _, _, ⟨_, _, _, _, h⟩ => by simp [ShsRep.length h]
 | [], _, _ :: _, _, h => h.elim
 | _ :: _, _, [], _, h => h.elim
theorem count_length : ∀ (n i : Nat), (count i n).length = n
 | 0, _ => rfl
 | n + 1, i => by simp [count, count_length n]
theorem count_at : ∀ (n i j t : Nat), (count i n)[j]? = some t → t = i + j ∧ j < n
 | 0, i, j, t, h => by simp [count] at h
 | n + 1, i, 0, t, h => by simp [count] at h; omega
 | n + 1, i, j + 1, t, h => by
  have := count_at n (i + 1) j t (by simpa [count] using h)
  omega
theorem run_ok (G : Good cx) (hext : ∀ f g inp out, cx.ext f = some g → g inp = some out → Contract cx f inp out) : ∀ k,
  (∀ f inp out, callF cx k f inp = some out → Contract cx f inp out) ∧
  (∀ (f : Nat) (fn : Func) (w0 : World) (Z0 : Nat → Prop) (args : List Value) (fp : List Nat) (out : (cx.spec f).Out) (its : List It) (s : St) (a : Act) (w : World) (Z : Nat → Prop) (κ : Nat → Option Value),
   isRound f = false → runF cx k f fn.results.toList its s = some out → RelF cx f w0 Z0 args fp s a w Z κ → Reach cx.P fn none (Ans cx f out w0 Z0 args fp) its a w) ∧
  (∀ (p : Nat) (its : List It) (s : St) (out : (cx.spec p).Out) (l : Nat) (fn : Func) (w0 : World) (Z0 : Nat → Prop) (args : List Value) (fp : List Nat) (a : Act) (w : World) (Z : Nat → Prop) (κ : Nat → Option Value),
   isRound p = true → runF cx k p [] its s = some out → RelF cx p w0 Z0 args fp s a w Z κ → Reach cx.P fn (some l) (Ans cx p out w0 Z0 args fp) its a w) := by
 intro k
 induction k with
 | zero => exact ⟨fun f inp out h => by simp [callF] at h, fun f fn w0 Z0 args fp out its s a w Z κ _ h => by simp [runF] at h, fun p its s out l fn w0 Z0 args fp a w Z κ _ h => by simp [runF] at h⟩
 | succ k ih =>
  obtain ⟨ih1, ih2, ih3⟩ := ih
  refine ⟨?_, ?_, ?_⟩
  ·intro f inp out h
   simp only [callF] at h
   split at h
   ·rename_i g hg
    exact hext f g inp out hg h
   ·split at h
    ·rename_i fn hfn
     split at h
     ·rename_i body hbody
      obtain ⟨hb, h1⟩ := cond_some h
      simp only [Bool.and_eq_true, Bool.not_eq_true'] at hb
      cases hrt : cx.rt f with
      | some l => rw [hrt] at h1; cases h1
      | none =>
      rw [hrt] at h1
      simp only at h1
      intro w Z args fp hrep hnd hfp hZ hGL
      have hlen := hrep.length
      have hle := ble_iff.1 hb.1.2
      have htm : cx.tms f = count 0 (cx.spec f).ps.length := by unfold Cx.tms; rw [hrt]
      have hts : (args.toArray ++ Array.replicate (fn.ntmps - args.toArray.size) Go.undef).size = fn.ntmps := by
       simp only [Array.size_append, List.size_toArray, Array.size_replicate, hlen]
       omega
      obtain ⟨κ', hL, _, hn, hhome⟩ := mkP_laid (ts := cx.tms f) (own := fun b => b ∈ fp ∨ w.heap.size ≤ b) (g := fun t => (args.toArray ++ Array.replicate (fn.ntmps - args.toArray.size) Go.undef).getD t Go.undef)
       (st := ⟨[], ⟨[], []⟩, fn.ntmps⟩) (κ := fun _ => none) ⟨empty_tr hZ, fun t v h => by cases h⟩ hrep (fun j t v ht hj => by
        have hlt : j < args.length := (List.getElem?_eq_some_iff.1 hj).1
        have hlt2 : j < args.toArray.size := by simpa using hlt
        rw [htm] at ht
        obtain ⟨rfl, _⟩ := count_at _ _ _ _ ht
        simp only [Nat.zero_add, Array.getD_eq_getD_getElem?]
        rw [Array.getElem?_append_left hlt2]
        simp [hj]) hnd (fun k u b hl => by rcases hl with ⟨r, hr⟩ | ⟨cs, hc⟩ <;> contradiction) (fun b hb => ⟨(hfp b hb).1, .inl hb⟩) (nodup_iff.1 hb.1.1) (fun k _ => rfl) (by rw [htm, count_length]) (fun t ht => by
        rw [htm] at ht
        obtain ⟨j, hj⟩ := List.getElem?_of_mem ht
        have := count_at _ _ _ _ hj
        show t < fn.ntmps
        omega)
      have hR : RelF cx f w Z args fp (mkP (cx.tms f) (cx.spec f).ps inp ⟨[], ⟨[], []⟩, fn.ntmps⟩) { tmps := args.toArray ++ Array.replicate (fn.ntmps - args.toArray.size) Go.undef, defers := [] } w Z κ' :=
       ⟨hL.tr, by rw [hn]; exact hts, hL.env, DefOk.nil, hGL, Keep.refl, fun _ h => h, fun _ h => .inl h, hhome⟩
      have hreach := ih2 f fn w Z args fp out _ _ _ _ _ _ hb.2 h1 hR
      intro cs
      let b : Frame := { (default : Frame) with fn := f % 1000, kind := .normal }
      have henter : Frame.enter cx.P (f % 1000) args.toArray .normal = b.atR { tmps := args.toArray ++ Array.replicate (fn.ntmps - args.toArray.size) Go.undef, defers := [] } [.code body] := by
       simp [Frame.enter, Frame.atR, hfn, hbody, b]
       rfl
      obtain ⟨m, ⟨a', w', w'', todo, v, h4, h5, h6, rfl⟩, h7⟩ := hreach b [] cs rfl (fun _ => rfl)
      refine ⟨.returned v, w'', { { b.atR a' todo with mode := .returning } with defers := [] }, h6, ?_, rfl, rfl, rfl, rfl, fn, hfn, h5⟩
      rw [henter]
      exact Steps.trans h7 (leave_steps h4 rfl rfl)
     ·cases h
    ·cases h
  ·intro f fn w0 Z0 args fp out its s a w Z κ hf h hR
   simp only [runF] at h
   exact runN_ok G ih1 (ro := none) hf rfl (fun its s a w Z κ h hR => ih2 f fn w0 Z0 args fp out its s a w Z κ hf h hR) ih3 stride its s a w Z κ h hR
  ·intro p its s out l fn w0 Z0 args fp a w Z κ hp h hR
   simp only [runF] at h
   exact runN_ok G ih1 (ro := some l) hp rfl (fun its s a w Z κ h hR => ih3 p its s out l fn w0 Z0 args fp a w Z κ hp h hR) ih3 stride its s a w Z κ h hR
end
end Go.Rf
end

section
namespace Go.Rf
open Go.RowKit
def isZeroC : T → Value → Bool
 | .int k, .int k' n => decide (k = k') && n == 0
 | .bool, .bool b => !b
 | .str, .string s => s.data.toList.isEmpty
 | .err, .nilIface => true
 | .sl _, .slice none 0 0 => true
 | _, _ => false
def areZero : List T → List Value → Bool
 | [], [] => true
 | t :: l, v :: vs => isZeroC t v && areZero l vs
 | _, _ => false
def isZeroV (i : TI) (v : Value) : Bool := match i.agg, i.cells, v with
 | false, [t], v => isZeroC t v
 | true, l, .agg vs => areZero l vs.toList
 | _, _, _ => false
theorem isZeroC_ok : ∀ {t : T} {v : Value}, isZeroC t v = true → v = zeroC t
 | .int k, .int k' n, h => by
  simp only [isZeroC, Bool.and_eq_true, decide_eq_true_eq, beq_iff_eq] at h
  rw [h.1, h.2]
  rfl
 | .bool, .bool b, h => by
  cases b with
  | false => rfl
  | true => cases h
 | .str, .string ⟨⟨l⟩⟩, h => by
  cases l with
  | nil => rfl
  | cons a l => cases h
 | .sl _, .slice none 0 0, _ => rfl
 | .err, .nilIface, _ => rfl
theorem areZero_ok : ∀ {l : List T} {vs : List Value}, areZero l vs = true → vs = l.map zeroC
 | [], [], _ => rfl
 | t :: l, v :: vs, h => by
  simp only [areZero, Bool.and_eq_true] at h
  rw [isZeroC_ok h.1, areZero_ok h.2]
  rfl
 | [], _ :: _, h => by cases h
 | _ :: _, [], h => by cases h
theorem isZeroV_ok {i : TI} {v : Value} (h : isZeroV i v = true) : v = zeroV i := by
 unfold isZeroV at h
 unfold zeroV
 split at h
 ·rename_i h1 h2
  rw [h1, h2]
  exact isZeroC_ok h
 ·rename_i h1
  rw [h1]
  simp only
  rw [← areZero_ok h]
 ·cases h
def isU8 : Option TypeDesc → Bool
 | some (.int .u8) => true
 | _ => false
def isScal (P : Program) : T → TypeDesc → Bool
 | .int k, .int k' => decide (k' = k)
 | .bool, .bool => true
 | .str, .string => true
 | .err, .interface _ => true
 | .sl e, .slice t => !(decide (e = .int .u8)) || isU8 (P.underlying t)
 | _, _ => false
theorem isU8_ok : ∀ {d : Option TypeDesc}, isU8 d = true → d = some (.int .u8)
 | some (.int .u8), _ => rfl
theorem isScal_ok {P : Program} : ∀ {c : T} {d : TypeDesc}, isScal P c d = true → scalOk P c d
 | .int k, .int k', h => by
  simp only [isScal, decide_eq_true_eq] at h
  rw [h]
  rfl
 | .bool, .bool, _ => rfl
 | .str, .string, _ => rfl
 | .err, .interface ms, _ => ⟨ms, rfl⟩
 | .sl e, .slice t, h => by
  refine ⟨t, rfl, fun he => ?_⟩
  simp only [isScal, he, decide_true, Bool.not_true, Bool.false_or] at h
  exact isU8_ok h
def isField (P : Program) (f : Field) (g : Nat × Nat × Bool) : Bool := Nat.beq f.offset g.1 && (match P.info? f.type with
  | some fi => Nat.beq fi.size g.2.1
  | none => false) && (match P.underlying f.type with
  | some d => aggD d == g.2.2
  | none => false)
def areFields (P : Program) : List Field → List (Nat × Nat × Bool) → Bool
 | [], [] => true
 | f :: l, g :: m => isField P f g && areFields P l m
 | _, _ => false
theorem areFields_ok {P : Program} : ∀ {l : List Field} {m : List (Nat × Nat × Bool)}, areFields P l m = true → All2 (fieldOk P) l m
 | [], [], _ => trivial
 | f :: l, g :: m, h => by
  simp only [areFields, Bool.and_eq_true] at h
  refine ⟨?_, areFields_ok h.2⟩
  have h1 := h.1
  unfold isField at h1
  simp only [Bool.and_eq_true] at h1
  obtain ⟨⟨h2, h3⟩, h4⟩ := h1
  refine ⟨beq_eq h2, ?_, ?_⟩
  ·split at h3
   ·rename_i fi hfi
    exact ⟨fi, hfi, beq_eq h3⟩
   ·cases h3
  ·split at h4
   ·rename_i d hd
    exact ⟨d, hd, by simpa using h4⟩
   ·cases h4
 | [], _ :: _, h => by cases h
 | _ :: _, [], h => by cases h
def isTy (P : Program) (t : TypeId) (i : TI) : Bool := (match P.info? t with
  | some f => Nat.beq f.size i.cells.length && Nat.beq f.bytes i.bytes && (match f.zero with
   | some v => isZeroV i v
   | none => false)
  | none => false) && (match P.underlying t with
  | some d => (aggD d == i.agg) && (match i.agg, i.cells, i.fields, d with
   | false, [c], [], d => isScal P c d
   | true, _, m, .struct fs => areFields P fs.toList m
   | _, _, _, _ => false)
  | none => false) && i.cells.all T.scal
theorem isTy_ok {P : Program} {t : TypeId} {i : TI} (h : isTy P t i = true) : TyOk P t i := by
 unfold isTy at h
 simp only [Bool.and_eq_true] at h
 obtain ⟨⟨h1, h2⟩, h3⟩ := h
 split at h2
 ·rename_i d hd
  simp only [Bool.and_eq_true, beq_iff_eq] at h2
  obtain ⟨h4, h5⟩ := h2
  refine ⟨?_, ⟨d, hd, h4, ?_⟩, h3, ?_⟩
  ·split at h1
   ·rename_i f hf
    simp only [Bool.and_eq_true] at h1
    obtain ⟨⟨h6, h7⟩, h8⟩ := h1
    refine ⟨f, hf, beq_eq h6, beq_eq h7, ?_⟩
    split at h8
    ·rename_i v hv
     rw [hv, isZeroV_ok h8]
    ·cases h8
   ·cases h1
  ·split at h5
   ·rename_i c ha hc hm
    exact ⟨fun _ => ⟨c, hc, isScal_ok h5⟩, fun h => by rw [ha] at h; cases h⟩
   ·rename_i fs ha
    exact ⟨fun h => (by rw [ha] at h; cases h), fun _ => ⟨fs, rfl, areFields_ok h5⟩⟩
   ·cases h5
  ·intro ha
   split at h5
   ·rename_i hm
    exact hm
   ·rename_i ha'
    rw [ha] at ha'
    cases ha'
   ·cases h5
 ·cases h2
def isEl (P : Program) (t e : TypeId) : Bool := match P.underlying t with
 | some (.slice e') => Nat.beq e' e
 | _ => false
def isIfc (P : Program) (t : TypeId) : Bool := match P.underlying t with
 | some (.interface _) => true
 | _ => false
def isKnown (P : Program) (g : Nat) : Bool := Nat.blt g 1000 && (match P.funcs[g]? with
 | some fn => fn.body.isSome && !(fn.name == "runtime.NumGoroutine")
 | none => false)
def isSc (P : Program) (ty : TypeId) (t : T) : Bool := match t, P.underlying ty with
 | .int _, some (.int _) => true
 | .bool, some .bool => true
 | .str, some .string => true
 | _, _ => false
def scalF (P : Program) : Nat → List Field → List T → Bool
 | _, [], [] => true
 | i, f :: fs, t :: ts => Nat.beq f.offset i && !(f.name == "_") && isSc P f.type t && scalF P (i + 1) fs ts
 | _, _, _ => false
def isEq (P : Program) (t : TypeId) (ts : List T) : Bool := match P.underlying t with
 | some (.struct fs) => !P.stoodInHeld t && !(P.eqGuardType P.depth t) && scalF P 0 fs.toList ts
 | _ => false
theorem part_sc {P : Program} {w : World} {ty : TypeId} {t : T} (h : isSc P ty t = true) {xs : Array Value} {i : Nat} {u : Value} (hu : xs[i]? = some u) : (part ty xs i).run P w = .ok u w := by
 have key : ∀ d, P.underlying ty = some d → aggD d = false → (part ty xs i).run P w = .ok u w := fun d h1 h2 => by
  unfold part
  rw [Sem.run_bind, run_isAgg h1, h2]
  simp [hu]
 unfold isSc at h
 split at h
 ·rename_i h1; exact key _ h1 rfl
 ·rename_i h1; exact key _ h1 rfl
 ·rename_i h1; exact key _ h1 rfl
 ·cases h
theorem eq_sc {P : Program} {w : World} {Z : Nat → Prop} {κ : Nat → Option Value} {ty : TypeId} {t : T} (h : isSc P ty t = true) {x : t.D} {c : C} {l m : List C} {b : Bool} {u v : Value} (hq : aggEq (.val t x :: l) (c :: m) = some b) (hu : crep w Z κ (.val t x) u) (hv : crep w Z κ c v) :
  ∃ p q, (Op.equalIn 9999 ty u v).run P w = .ok p w ∧ aggEq l m = some q ∧ b = (p && q) := by
 unfold isSc at h
 split at h
 ·rename_i k k' h1
  match c, hq, hv with
  | .val (.int k2) y, hq, hv =>
   simp only [aggEq] at hq
   split at hq
   ·rename_i e
    subst e
    split at hq
    ·rename_i q hq2
     obtain rfl := Option.some.inj hq
     rw [crep_int (w := w) (Z := Z) (κ := κ) hu, crep_int (w := w) (Z := Z) (κ := κ) hv]
     exact ⟨_, q, run_equalIn_int w 9998 ty k k' _ _ h1, hq2, rfl⟩
    ·cases hq
   ·cases hq
 ·rename_i h1
  match c, hq, hv with
  | .val .bool y, hq, hv =>
   simp only [aggEq] at hq
   split at hq
   ·rename_i q hq2
    obtain rfl := Option.some.inj hq
    rw [crep_bool (w := w) (Z := Z) (κ := κ) hu, crep_bool (w := w) (Z := Z) (κ := κ) hv]
    exact ⟨_, q, run_equalIn_bool' w 9998 ty _ _ h1, hq2, rfl⟩
   ·cases hq
 ·rename_i h1
  match c, hq, hv with
  | .val .str y, hq, hv =>
   simp only [aggEq] at hq
   split at hq
   ·rename_i q hq2
    obtain rfl := Option.some.inj hq
    rw [crep_str (w := w) (Z := Z) (κ := κ) hu, crep_str (w := w) (Z := Z) (κ := κ) hv]
    refine ⟨_, q, run_equalIn_string w 9998 ty _ _ h1, hq2, ?_⟩
    rw [beq_toListBytes]
   ·cases hq
 ·cases h
theorem eqFields_ok {P : Program} {w : World} {Z : Nat → Prop} {κ : Nat → Option Value} {xs ys : Array Value} : ∀ {fs : List Field} {ts : List T} {i : Nat} {l m : List C} {us vs : List Value} {b : Bool}, scalF P i fs ts = true → valsAre ts l = true → aggEq l m = some b →
  All2 (crep w Z κ) l us → All2 (crep w Z κ) m vs → (∀ j u, us[j]? = some u → xs[i + j]? = some u) → (∀ j u, vs[j]? = some u → ys[i + j]? = some u) → (Op.eqFields 9999 xs ys fs).run P w = .ok b w
 | [], [], i, [], [], us, vs, b, _, _, hq, _, _, _, _ => by
  obtain rfl := Option.some.inj (show some true = some b from hq)
  simp [Op.eqFields]
 | f :: fs, t :: ts, i, .val t' x :: l, c :: m, u :: us, v :: vs, b, hs, hva, hq, hl, hm, hx, hy => by
  simp only [scalF, Bool.and_eq_true] at hs
  obtain ⟨⟨⟨h1, h2⟩, h3⟩, h4⟩ := hs
  simp only [valsAre, Bool.and_eq_true, decide_eq_true_eq] at hva
  obtain ⟨rfl, hva⟩ := hva
  have ho : f.offset = i := Nat.eq_of_beq_eq_true h1
  have hn : f.name ≠ "_" := by simpa using h2
  obtain ⟨p, q, e1, e2, rfl⟩ := eq_sc h3 hq hl.1 hm.1
  have hu : (part f.type xs f.offset).run P w = .ok u w := part_sc h3 (by rw [ho]; exact hx 0 u rfl)
  have hv : (part f.type ys f.offset).run P w = .ok v w := part_sc h3 (by rw [ho]; exact hy 0 v rfl)
  have ih := eqFields_ok (xs := xs) (ys := ys) h4 hva e2 hl.2 hm.2 (fun j z hz => by have := hx (j + 1) z hz; rw [show i + 1 + j = i + (j + 1) by omega]; exact this) (fun j z hz => by have := hy (j + 1) z hz; rw [show i + 1 + j = i + (j + 1) by omega]; exact this)
  rw [Op.eqFields]
  simp only [if_pos hn, Sem.run_bind, hu, hv, e1, Result.andThen_ok]
  cases p
  ·simp
  ·simpa using ih
 | _ :: _, _ :: _, _, .val t _ :: _, [], _, _, _, _, _, hq, _, _, _, _ => by cases t <;> simp [aggEq] at hq
theorem isEq_ok {P : Program} {t : TypeId} {ts : List T} (h : isEq P t ts = true) (w : World) (Z : Nat → Prop) (κ : Nat → Option Value) (l m : List C) (b : Bool) (xs ys : List Value) (hva : valsAre ts l = true) (hq : aggEq l m = some b) (hl : All2 (crep w Z κ) l xs) (hm : All2 (crep w Z κ) m ys) :
  (Op.equal t (.agg xs.toArray) (.agg ys.toArray)).run P w = .ok b w ∧ P.eqGuardType P.depth t = false := by
 unfold isEq at h
 split at h
 ·rename_i fs hfs
  simp only [Bool.and_eq_true, Bool.not_eq_true'] at h
  refine ⟨?_, h.1.2⟩
  have hf : P.fieldsOf t = fs := by simp [Program.fieldsOf, hfs]
  have h9 : Op.equal t (.agg xs.toArray) (.agg ys.toArray) = Op.equalIn (9999 + 1) t (.agg xs.toArray) (.agg ys.toArray) := rfl
  rw [h9, run_equalIn_struct (P := P) w 9999 t _ _ (by rw [hf]; exact hfs) h.1.1, hf]
  exact eqFields_ok h.2 hva hq hl hm (fun j u hu => by simpa using hu) (fun j u hu => by simpa using hu)
 ·cases h
structure Tabs where
 ty : List (Nat × TI)
 el : List (Nat × Nat)
 ifcs : List Nat
 known : List Nat
 spec : List (Nat × Spec)
 cut : List (Nat × List (Nat × List (Nat × Sh)))
 eqs : List (Nat × List T)
 rt : List (Nat × List Nat) := []
 rng : List (Nat × List (Nat × Nat)) := []
 back : List (Nat × Nat × Nat) := []
def rngOf (l : List (Nat × List (Nat × Nat))) (f n : Nat) : Option Nat := match look l f with
 | some s => look s n
 | none => none
def isIter (l : List (Nat × Nat × Nat)) (g : Nat) : Bool := match l with
 | [] => false
 | (_, g1, _) :: l => bif Nat.beq g1 g then true else isIter l g
def Tabs.ok (P : Program) (T : Tabs) : Bool :=
 T.ty.all (fun p => isTy P p.1 p.2) && T.el.all (fun p => isEl P p.1 p.2) && T.ifcs.all (isIfc P) && T.known.all (isKnown P) && P.follows .mixedOrders && T.eqs.all (fun p => isEq P p.1 p.2)
def specOf (l : List (Nat × Spec)) (f : Nat) : Spec := match look l f with
 | some s => s
 | none => ⟨[], []⟩
def cutOf (l : List (Nat × List (Nat × List (Nat × Sh)))) (f n : Nat) : Option (List (Nat × Sh)) := match look l f with
 | some s => look s n
 | none => none
def Tabs.cx (P : Program) (T : Tabs) (ext : (f : Nat) → Option ((specOf T.spec f).In → Option (specOf T.spec f).Out)) (glob : Nat → Option Gv) (objs : Nat → Option (Array Value → Prop)) : Cx :=
 {P := P, ty := look T.ty, el := look T.el, spec := specOf T.spec, ext := ext, glob := glob, objs := objs, eqs := look T.eqs, ifcs := fun t => inl t T.ifcs, known := fun g => inl g T.known, cut := cutOf T.cut, rt := look T.rt, rng := rngOf T.rng, back := look T.back, iter := isIter T.back }
theorem run_known {P : Program} {g : Nat} (h : isKnown P g = true) : g < 1000 ∧ ∀ args w, (callFunc g args).run P w = .ok (.enter g args) w := by
 unfold isKnown at h
 simp only [Bool.and_eq_true] at h
 refine ⟨Nat.lt_of_lt_of_le (Nat.lt_succ_self _) (Nat.le_of_ble_eq_true h.1), fun args w => ?_⟩
 have h2 := h.2
 split at h2
 ·rename_i fn hfn
  simp only [Bool.and_eq_true, Bool.not_eq_true'] at h2
  have hb : ¬ fn.body = none := by
   intro hh
   rw [hh] at h2
   cases h2.1
  have hn : ¬ fn.name = "runtime.NumGoroutine" := by
   intro hh
   rw [hh] at h2
   simp at h2
  simp [callFunc, hfn, hn, hb]
 ·cases h2
def BacksOk (P : Program) : List (Nat × Nat × Nat) → Prop
 | [] => True
 | (g, g1, t) :: l => (BackOk P g g1 t ∧ IterOk P g1 ∧ isKnown P g1 = true) ∧ BacksOk P l
theorem backs_back {P : Program} {g : Nat} {q : Nat × Nat} : ∀ {l : List (Nat × Nat × Nat)}, BacksOk P l → look l g = some q → BackOk P g q.1 q.2
 | [], _, h => by cases h
 | (g', g1, t) :: l, hb, h => by
  rw [look_cons] at h
  split at h
  ·rename_i e
   subst e
   cases h
   exact hb.1.1
  ·exact backs_back hb.2 h
theorem backs_iter {P : Program} {g : Nat} : ∀ {l : List (Nat × Nat × Nat)}, BacksOk P l → isIter l g = true → IterOk P g ∧ isKnown P g = true
 | [], _, h => by cases h
 | (g', g1, t) :: l, hb, h => by
  unfold isIter at h
  rcases beq_cases g1 g with ⟨h1, h2⟩ | ⟨h1, h2⟩
  ·subst h2
   exact hb.1.2
  ·rw [h1] at h
   exact backs_iter hb.2 h
theorem Tabs.good {P : Program} {T : Tabs} (h : T.ok P = true) (hbk : BacksOk P T.back := by exact trivial) {ext : (f : Nat) → Option ((specOf T.spec f).In → Option (specOf T.spec f).Out)} {glob : Nat → Option Gv} {objs : Nat → Option (Array Value → Prop)} : Good (T.cx P ext glob objs) := by
 unfold Tabs.ok at h
 simp only [Bool.and_eq_true] at h
 obtain ⟨⟨⟨⟨⟨h1, h2⟩, h3⟩, h4⟩, h5⟩, h6⟩ := h
 refine ⟨fun g q hg => backs_back hbk hg, fun g hg => ⟨(backs_iter hbk hg).1, (run_known (backs_iter hbk hg).2).2⟩, ?_, ?_, ?_, h5, ?_, fun t ts ht => isEq_ok (List.all_eq_true.1 h6 (t, ts) (look_mem ht))⟩
 ·intro t ht
  have := List.all_eq_true.1 h3 t (inl_iff.1 ht)
  unfold isIfc at this
  split at this
  ·rename_i ms hms
   exact ⟨ms, hms⟩
  ·cases this
 ·intro t i ht
  exact isTy_ok (List.all_eq_true.1 h1 (t, i) (look_mem ht))
 ·intro t e ht
  have := List.all_eq_true.1 h2 (t, e) (look_mem ht)
  unfold isEl at this
  split at this
  ·rename_i e' he'
   have h6 := beq_eq this
   simp only at h6
   rw [← h6]
   exact he'
  ·cases this
 ·intro g hg
  exact run_known (List.all_eq_true.1 h4 g (inl_iff.1 hg))
end Go.Rf
end

section
namespace Go.Rf
open Go.RowKit Go.Deep Go.WideShapes Go.ChangeShapes
def rowT (cells : List T) : T := cells.foldr .pair .unit
def wfT : (t : T) → t.D → Prop
 | .unit, _ => True
 | .int k, n => (Lit.int k n).wf = true
 | .bool, _ => True
 | .str, s => s.size ≤ maxLen
 | .err, _ => True
 | .ref _, _ => True
 | .sl e, l => l.length ≤ maxLen ∧ ∀ y ∈ l, wfT e y
 | .pair a b, x => wfT a x.1 ∧ wfT b x.2
def Here (w : World) : Nat → Prop := fun b => b < w.heap.size
def Opens (P : Program) (t : TypeId) (T : T) : Prop :=
 ∀ (H : Type) (enc : TypeId × Value → H) (w : World) (base : Nat) (spare : Nat → Bool) (held : Bool) (fuel : Nat) (cs : List Value) (x : DataW H × List MemPlace),
  DataW.trod enc P w base spare held fuel t cs = some x → ∃ y : T.D, rep w (Here w) T y cs ∧ wfT T y
theorem opens_one {P : Program} {t : TypeId} {c : T} (h : Opens P t c) : Opens P t (rowT [c]) := by
 intro H enc w base spare held fuel cs x hx
 obtain ⟨y, h1, h2⟩ := h H enc w base spare held fuel cs x hx
 exact ⟨(y, ()), ⟨cs, [], by simp, h1, rfl⟩, h2, trivial⟩
theorem opens_int {P : Program} {t : TypeId} {k : IntKind} (ht : P.underlying t = some (.int k)) : Opens P t (.int k) := by
 intro H enc w base spare held fuel cs x h
 obtain ⟨n, rfl, _, hw⟩ := DataW.trod_int ht h
 exact ⟨n, rfl, hw⟩
theorem opens_bool {P : Program} {t : TypeId} (ht : P.underlying t = some .bool) : Opens P t .bool := by
 intro H enc w base spare held fuel cs x h
 obtain ⟨n, rfl, _⟩ := DataW.trod_bool ht h
 exact ⟨n, rfl, trivial⟩
theorem opens_string {P : Program} {t : TypeId} (ht : P.underlying t = some .string) : Opens P t .str := by
 intro H enc w base spare held fuel cs x h
 obtain ⟨n, rfl, _, hw⟩ := DataW.trod_string ht h
 exact ⟨n, rfl, hw⟩
theorem addr_add_add (a : Addr) (i j : Nat) : (a.add i).add j = a.add (i + j) := by
 by_cases hi : i = 0
 ·subst hi; simp [Addr.add]
 ·by_cases hj : j = 0
  ·subst hj; simp [Addr.add]
  ·simp [Addr.add, hi, hj, Nat.add_assoc]
theorem cell_spot {w : World} {a : Addr} {v : Value} (h : w.cell? a = some v) : a.spot = none ∧ a.block < w.heap.size := by
 unfold World.cell? at h
 split at h
 ·rename_i c t z hc
  refine ⟨?_, (Array.getElem?_eq_some_iff.1 hc).1⟩
  cases hs : a.spot with
  | none => rfl
  | some _ => rw [hs] at h; simp at h
 ·cases h
theorem opens_slice {P : Program} {t e : TypeId} {T : T} (ht : P.underlying t = some (.slice e)) (hd : Opens P e T) (hs : P.cellsOf e = T.n) : Opens P t (.sl T) := by
 intro H enc w base spare held fuel cs x h
 rcases open_slice ht h with ⟨rfl, _⟩ | ⟨a, len, cap, m, n, D, Pl, rfl, hb, hl, hm, hmm, _, hx⟩
 ·exact ⟨[], ⟨none, 0, [], rfl, Nat.le_refl _, rfl, fun j u hj => by simp at hj⟩, by simp, by simp⟩
 ·have hlm : len ≤ m := by rw [hmm]; split <;> omega
  have key : ∀ k, k ≤ len → ∃ (ys : List T.D) (vs : List Value), ys.length = k ∧ reps (rep w (Here w) T) ys vs ∧ (∀ y ∈ ys, wfT T y) ∧ ∀ j u, vs[j]? = some u → w.cell? (a.add j) = some u := by
   intro k
   induction k with
   | zero => intro _; exact ⟨[], [], rfl, rfl, by simp, fun j u hj => by simp at hj⟩
   | succ k ih =>
    intro hk
    obtain ⟨ys, vs, hy, hr, hw, hc⟩ := ih (by omega)
    obtain ⟨cs', hcs, htr⟩ := hx k (by omega)
    obtain ⟨y, hy1, hw1⟩ := hd H enc w base spare held n cs' _ htr
    rw [hs] at hcs
    obtain ⟨_, hlen, hcell⟩ := World.cells?_some hcs
    have hvl := reps.length (fun x c hxc => rep.length (t := T) hxc) hr
    refine ⟨ys ++ [y], vs ++ cs', by simp [hy], hr.append ⟨cs', [], by simp, hy1, rfl⟩, ?_, ?_⟩
    ·intro z hz
     rcases List.mem_append.1 hz with hz | hz
     ·exact hw z hz
     ·simp only [List.mem_singleton] at hz
      subst hz
      exact hw1
    ·intro j u hj
     rcases Nat.lt_or_ge j vs.length with hjl | hjl
     ·rw [List.getElem?_append_left hjl] at hj
      exact hc j u hj
     ·rw [List.getElem?_append_right hjl] at hj
      have hjc : j - vs.length < cs'.length := (List.getElem?_eq_some_iff.1 hj).1
      have := hcell (j - vs.length) (by omega)
      rw [addr_add_add, hj] at this
      rw [← this]
      congr 2
      rw [hvl, hy] at hjl ⊢
      omega
  obtain ⟨ys, vs, hy, hr, hw, hc⟩ := key len (Nat.le_refl _)
  subst hy
  refine ⟨ys, ⟨some a, cap, vs, rfl, hl, hr, fun j u hj => ⟨a, rfl, ?_, ?_, hc j u hj⟩⟩, by omega, hw⟩
  ·have h0 : ∃ u0, vs[0]? = some u0 := by
    have : j < vs.length := (List.getElem?_eq_some_iff.1 hj).1
    exact ⟨vs[0], by simp⟩
   obtain ⟨u0, h0⟩ := h0
   have := hc 0 u0 h0
   have ha : a.add 0 = a := by simp [Addr.add]
   rw [ha] at this
   exact (cell_spot this).1
  ·have := (cell_spot (hc j u hj)).2
   rwa [add_block] at this
def opnF (tab : List (Nat × TI)) (P : Program) (g : TypeId → List T → Bool) : List Field → Nat → List T → Bool
 | [], _, cells => emptyL cells
 | f :: fs, off, cells => match look tab f.type with
  | some i => Nat.beq f.offset off && Nat.beq (P.cellsOf f.type) i.cells.length && decide (cells.take i.cells.length = i.cells) && g f.type i.cells && opnF tab P g fs (off + i.cells.length) (cells.drop i.cells.length)
  | none => false
def opn (tab : List (Nat × TI)) (P : Program) : Nat → TypeId → List T → Bool
 | 0, _, _ => false
 | n + 1, t, cells => match P.underlying t with
  | some (.int k) => decide (cells = [.int k])
  | some .bool => decide (cells = [.bool])
  | some .string => decide (cells = [.str])
  | some (.slice e) => match look tab e with
   | some i => decide (cells = [.sl i.row]) && Nat.beq (P.cellsOf e) i.cells.length && i.cells.all T.scal && opn tab P n e i.cells && (i.agg || Nat.beq i.cells.length 1)
   | none => false
  | some (.struct fs) => Nat.beq (P.cellsOf t) cells.length && cells.all T.scal && opnF tab P (opn tab P n) fs.toList 0 cells
  | _ => false
theorem rowT_n : ∀ {cells : List T}, cells.all T.scal = true → (rowT cells).n = cells.length
 | [], _ => rfl
 | c :: l, h => by
  simp only [List.all_cons, Bool.and_eq_true] at h
  have h1 := rowT_n h.2
  have hc : c.n = 1 := by cases c <;> first | rfl | cases h.1
  show c.n + (rowT l).n = _
  rw [h1, hc, List.length_cons]
  omega
theorem rep_app {w : World} {Z : Nat → Prop} : ∀ {l m : List T} {x : (rowT l).D} {y : (rowT m).D} {cs ds : List Value}, rep w Z (rowT l) x cs → rep w Z (rowT m) y ds → wfT (rowT l) x → wfT (rowT m) y → ∃ z : (rowT (l ++ m)).D, rep w Z (rowT (l ++ m)) z (cs ++ ds) ∧ wfT (rowT (l ++ m)) z
 | [], _, _, y, cs, ds, h, h', _, hw => by
  have : cs = [] := h
  subst this
  exact ⟨y, h', hw⟩
 | c :: l, m, x, y, cs, ds, ⟨c1, d1, e, h1, h2⟩, h', hw, hw' => by
  obtain ⟨z, h3, h4⟩ := rep_app (l := l) (m := m) (x := x.2) (y := y) h2 h' hw.2 hw'
  exact ⟨(x.1, z), ⟨c1, d1 ++ ds, by rw [e, List.append_assoc], h1, h3⟩, hw.1, h4⟩
theorem opnF_ok {tab : List (Nat × TI)} {P : Program} {g : TypeId → List T → Bool} (hg : ∀ t cells, g t cells = true → Opens P t (rowT cells)) {H : Type} {enc : TypeId × Value → H} {w : World} {base : Nat} {spare : Nat → Bool} {held : Bool} {n : Nat} {cs : List Value} :
  ∀ {fs : List Field} {off : Nat} {cells : List T}, opnF tab P g fs off cells = true → (∀ f ∈ fs, ∃ x, DataW.trod enc P w base spare held n f.type ((cs.drop f.offset).take (P.cellsOf f.type)) = some x) → cs.length = off + cells.length →
   ∃ y : (rowT cells).D, rep w (Here w) (rowT cells) y (cs.drop off) ∧ wfT (rowT cells) y
 | [], off, cells, h, _, hl => by
  have : cells = [] := by
   cases cells with
   | nil => rfl
   | cons _ _ => cases h
  subst this
  refine ⟨(), ?_, trivial⟩
  show cs.drop off = []
  exact List.drop_of_length_le (by simp at hl; omega)
 | f :: fs, off, cells, h, hf, hl => by
  simp only [opnF] at h
  split at h
  ·rename_i i hi
   simp only [Bool.and_eq_true, decide_eq_true_eq] at h
   obtain ⟨⟨⟨⟨h1, h2⟩, h3⟩, h4⟩, h5⟩ := h
   have h1 := beq_eq h1
   have h2 := beq_eq h2
   obtain ⟨x, hx⟩ := hf f (by simp)
   obtain ⟨y, h6, h7⟩ := hg f.type i.cells h4 H enc w base spare held n _ x hx
   have hlen : cells.length = i.cells.length + (cells.drop i.cells.length).length := by
    have := congrArg List.length h3
    rw [List.length_take] at this
    rw [List.length_drop]
    omega
   obtain ⟨z, h8, h9⟩ := opnF_ok hg (fs := fs) (off := off + i.cells.length) (cells := cells.drop i.cells.length) h5 (fun f' hf' => hf f' (by simp [hf'])) (by omega)
   obtain ⟨q, h10, h11⟩ := rep_app h6 h8 h7 h9
   have e1 : i.cells ++ cells.drop i.cells.length = cells := by
    rw [← h3]
    simp only [List.length_take]
    rw [Nat.min_eq_left (by omega)]
    exact List.take_append_drop _ _
   have e2 : (cs.drop f.offset).take (P.cellsOf f.type) ++ cs.drop (off + i.cells.length) = cs.drop off := by
    rw [h1, h2, ← List.drop_drop]
    exact List.take_append_drop _ _
   rw [e2] at h10
   revert q
   rw [e1]
   exact fun q h10 h11 => ⟨q, h10, h11⟩
  ·cases h
theorem opn_ok {tab : List (Nat × TI)} {P : Program} : ∀ (n : Nat) (t : TypeId) (cells : List T), opn tab P n t cells = true → Opens P t (rowT cells)
 | 0, _, _, h => by cases h
 | n + 1, t, cells, h => by
  simp only [opn] at h
  split at h
  ·rename_i k hu
   rw [decide_eq_true_eq] at h
   subst h
   exact opens_one (opens_int hu)
  ·rename_i hu
   rw [decide_eq_true_eq] at h
   subst h
   exact opens_one (opens_bool hu)
  ·rename_i hu
   rw [decide_eq_true_eq] at h
   subst h
   exact opens_one (opens_string hu)
  ·rename_i e hu
   split at h
   ·rename_i i hi
    simp only [Bool.and_eq_true, decide_eq_true_eq, Bool.or_eq_true] at h
    obtain ⟨⟨⟨⟨h1, h2⟩, h3⟩, h4⟩, h5⟩ := h
    subst h1
    have ih := opn_ok n e i.cells h4
    refine opens_one (opens_slice hu ?_ ?_)
    ·unfold TI.row
     split
     ·rename_i c ha hc
      rw [hc] at ih
      intro H enc w base spare held fuel cs x hx
      obtain ⟨y, ⟨c1, d1, e1, h6, h7⟩, h8⟩ := ih H enc w base spare held fuel cs x hx
      have : d1 = [] := h7
      subst this
      rw [List.append_nil] at e1
      subst e1
      exact ⟨y.1, h6, h8.1⟩
     ·exact ih
    ·rw [beq_eq h2]
     unfold TI.row
     split
     ·rename_i c ha hc
      rw [hc] at h3 ⊢
      simp only [List.all_cons, List.all_nil, Bool.and_true] at h3
      cases c <;> first | rfl | cases h3
     ·exact (rowT_n h3).symm
   ·cases h
  ·rename_i fs hu
   simp only [Bool.and_eq_true] at h
   obtain ⟨⟨h1, h2⟩, h3⟩ := h
   intro H enc w base spare held fuel cs x hx
   obtain ⟨xs, m, _, _, hl, hlen, hall⟩ := DataW.trod_struct hu hx
   have := opnF_ok (fun t cells h => opn_ok n t cells h) (enc := enc) (w := w) (base := base) (spare := spare) (held := held) (n := m) (cs := cs) h3 (fun f hf => by
    obtain ⟨i, hi⟩ := List.getElem?_of_mem hf
    have hi' : fs[i]? = some f := by simpa using hi
    have hlt : i < fs.size := (Array.getElem?_eq_some_iff.1 hi').1
    exact ⟨_, (hall i f hi').trans (List.getElem?_eq_getElem (by omega))⟩) (by rw [hl, beq_eq h1]; omega)
   simpa using this
  ·cases h
def vSh (i : TI) : Sh := match i.agg, i.cells with
 | false, [c] => .c (.v c)
 | _, l => .agg (l.map .v)
def shWf : (s : Sh) → s.D → Prop
 | .c (.v t), x => wfT t x
 | .agg cs, x => scsWf cs x
 | _, _ => False
where scsWf : (cs : List Sc) → Dats cs → Prop
 | [], _ => True
 | .v t :: cs, x => wfT t x.1 ∧ scsWf cs x.2
 | .o .. :: _, _ => False
theorem rowT_sreps {w : World} {Z : Nat → Prop} : ∀ {l : List T} {x : (rowT l).D} {cs : List Value}, l.all T.scal = true → rep w Z (rowT l) x cs → wfT (rowT l) x → ∃ y : Dats (l.map .v), SReps w Z (l.map .v) y cs [] ∧ shWf.scsWf (l.map .v) y
 | [], _, cs, _, h, _ => by
  have : cs = [] := h
  subst this
  exact ⟨(), rfl, trivial⟩
 | c :: l, x, cs, hs, ⟨c1, d1, e, h1, h2⟩, hw => by
  simp only [List.all_cons, Bool.and_eq_true] at hs
  obtain ⟨y, h3, h4⟩ := rowT_sreps (l := l) (x := x.2) hs.2 h2 hw.2
  have hlen := rep.length h1
  have hc : c.n = 1 := by cases c <;> first | rfl | cases hs.1
  obtain ⟨v, rfl⟩ : ∃ v, c1 = [v] := by
   cases c1 with
   | nil => rw [hc] at hlen; simp at hlen
   | cons v c1 => cases c1 with
    | nil => exact ⟨v, rfl⟩
    | cons _ _ => rw [hc] at hlen; simp at hlen
  subst e
  exact ⟨(x.1, y), ⟨[], [], rfl, ⟨h1, rfl⟩, h3⟩, hw.1, h4⟩
def opnArg (tab : List (Nat × TI)) (P : Program) (t : TypeId) (i : TI) : Bool := i.cells.all T.scal && opn tab P 20 t i.cells && (match P.underlying t with
 | some (.struct _) => i.agg
 | some (.slice _) => !i.agg && Nat.beq i.cells.length 1
 | some .bool => !i.agg && Nat.beq i.cells.length 1
 | some .string => !i.agg && Nat.beq i.cells.length 1
 | some (.int _) => !i.agg && Nat.beq i.cells.length 1
 | _ => false)
theorem opnArg_ok {tab : List (Nat × TI)} {P : Program} {t : TypeId} {i : TI} (h : opnArg tab P t i = true) {H : Type} {enc : TypeId × Value → H} {W : World} {base b0 : Nat} {spare : Nat → Bool} {held : Bool} {r : Go.Reach} {v : Value} {x : DataW H} {p : List MemPlace}
  (hv : Value.okWide P W r b0 t v) (hx : DataW.Trod enc P W base spare held t v x p) : ∃ y : (vSh i).D, ShRep W (Here W) (vSh i) y v [] ∧ shWf (vSh i) y := by
 unfold opnArg at h
 simp only [Bool.and_eq_true] at h
 obtain ⟨⟨h1, h2⟩, h3⟩ := h
 obtain ⟨fuel, hf⟩ := hx
 obtain ⟨y, h4, h5⟩ := opn_ok 20 t i.cells h2 H enc W base spare held fuel _ _ hf
 have one : ∀ {c : T}, i.agg = false → i.cells = [c] → v.cells.toList = [v] → ∃ y : (vSh i).D, ShRep W (Here W) (vSh i) y v [] ∧ shWf (vSh i) y := by
  intro c ha hc hvc
  revert y
  rw [hvc]
  unfold vSh
  rw [ha, hc]
  rintro y ⟨c1, d1, e, h6, h7⟩ h8
  have : d1 = [] := h7
  subst this
  rw [List.append_nil] at e
  subst e
  exact ⟨y.1, ⟨h6, rfl⟩, h8.1⟩
 have len1 : Nat.beq i.cells.length 1 = true → ∃ c, i.cells = [c] := by
  intro hl
  have hl := beq_eq hl
  cases hc : i.cells with
  | nil => rw [hc] at hl; simp at hl
  | cons c l => cases l with
   | nil => exact ⟨c, rfl⟩
   | cons _ _ => rw [hc] at hl; simp at hl
 split at h3
 ·rename_i fs hu
  obtain ⟨cs, rfl, _⟩ := okWide_struct hu hv
  obtain ⟨z, h6, h7⟩ := rowT_sreps h1 h4 h5
  unfold vSh
  rw [h3]
  exact ⟨z, ⟨cs, rfl, h6⟩, h7⟩
 ·rename_i hu
  simp only [Bool.and_eq_true, Bool.not_eq_true'] at h3
  obtain ⟨c, hc⟩ := len1 h3.2
  refine one h3.1 hc ?_
  obtain ⟨a, len, cap, rfl⟩ := okWide_slice hu hv
  rfl
 ·rename_i hu
  simp only [Bool.and_eq_true, Bool.not_eq_true'] at h3
  obtain ⟨c, hc⟩ := len1 h3.2
  refine one h3.1 hc ?_
  obtain ⟨b, rfl⟩ := okWide_bool hu hv
  rfl
 ·rename_i hu
  simp only [Bool.and_eq_true, Bool.not_eq_true'] at h3
  obtain ⟨c, hc⟩ := len1 h3.2
  refine one h3.1 hc ?_
  obtain ⟨b, rfl⟩ := okWide_string hu hv
  rfl
 ·rename_i hu
  simp only [Bool.and_eq_true, Bool.not_eq_true'] at h3
  obtain ⟨c, hc⟩ := len1 h3.2
  refine one h3.1 hc ?_
  obtain ⟨b, rfl⟩ := okWide_int hu hv
  rfl
 ·cases h3
theorem res_bool {w : World} {Z : Nat → Prop} {b : Bool} {vs : List Value} {fp : List Nat} (h : ShsRep w Z [.c (.v .bool)] (b, ()) vs fp) : tupV vs = .bool b := by
 match vs, h with
 | [v], ⟨f, g, _, ⟨h1, _⟩, _⟩ => exact (List.cons.inj (show [v] = [.bool b] from h1)).1
 | [], h => exact h.elim
 | _ :: _ :: _, ⟨_, _, _, _, h⟩ => exact h.elim
end Go.Rf
end

section
namespace Go.Rf
def Ev {α : Type} (g : Nat → Option α) (r : α) : Prop := ∃ K, ∀ k, K ≤ k → g k = some r
section
variable {α β γ ρ : Type}
theorem Ev.now (r : α) : Ev (fun _ => some r) r := ⟨0, fun _ _ => rfl⟩
theorem Ev.bind {g : Nat → Option α} {f : Nat → α → Option β} {x : α} {r : β} (h : Ev g x) (h2 : Ev (fun k => f k x) r) : Ev (fun k => (g k).bind (f k)) r := by
 obtain ⟨K, hK⟩ := h
 obtain ⟨L, hL⟩ := h2
 refine ⟨max K L, fun k hk => ?_⟩
 show (g k).bind (f k) = some r
 rw [hK k (by omega), Option.bind_some]
 exact hL k (by omega)
theorem Ev.step {g h : Nat → Option α} {r : α} (n : Nat) (e : ∀ k, g (k + n) = h k) (hh : Ev h r) : Ev g r := by
 obtain ⟨K, hK⟩ := hh
 refine ⟨K + n, fun k hk => ?_⟩
 obtain ⟨j, rfl⟩ : ∃ j, k = j + n := ⟨k - n, by omega⟩
 rw [e]
 exact hK j (by omega)
theorem Ev.get {g : Nat → Option α} {r : α} (h : Ev g r) : ∃ k, g k = some r := by
 obtain ⟨K, hK⟩ := h
 exact ⟨K, hK K (Nat.le_refl _)⟩
theorem wrap64 {n : Int} (h1 : -9223372036854775808 ≤ n) (h2 : n ≤ 9223372036854775807) : IntKind.i64.wrap n = n := by
 unfold IntKind.wrap
 simp [IntKind.bits, IntKind.signed]
 omega
theorem wrap_succ {i : Nat} (h : i < 9223372036854775807) : IntKind.i64.wrap ((i : Int) + 1) = ((i + 1 : Nat) : Int) := by
 rw [wrap64 (by omega) (by omega)]
 omega
theorem lt_true {i n : Nat} (h : i < n) : decide ((i : Int) < (n : Int)) = true := by simp; omega
theorem lt_false {i n : Nat} (h : n ≤ i) : decide ((i : Int) < (n : Int)) = false := by simp; omega
theorem ge0 (i : Nat) : decide (0 ≤ (i : Int)) = true := by simp
theorem all_loop {L : Nat → Int → Option ρ} {n : Nat} {no yes : ρ} {c : Nat → Bool} (hstop : ∀ i, i < n → c i = false → Ev (fun k => L k (i : Int)) no) (hgo : ∀ i, i < n → c i = true → ∀ r, Ev (fun k => L k ((i + 1 : Nat) : Int)) r → Ev (fun k => L k (i : Int)) r)
  (hend : Ev (fun k => L k (n : Int)) yes) : Ev (fun k => L k 0) (if (List.range n).all c = true then yes else no) := by
 have key : ∀ (m i : Nat), i + m = n → Ev (fun k => L k (i : Int)) (if (List.range' i m).all c = true then yes else no) := by
  intro m
  induction m with
  | zero =>
   intro i hi
   have : i = n := by omega
   subst this
   exact hend
  | succ m ih =>
   intro i hi
   rw [List.range'_succ, List.all_cons]
   cases hc : c i with
   | false => exact hstop i (by omega) hc
   | true => exact hgo i (by omega) hc _ (ih (i + 1) (by omega))
 have h0 := key n 0 (by omega)
 rw [← List.range_eq_range'] at h0
 exact h0
theorem find_loop {L : Nat → Int → Option ρ} {n : Nat} {no : Nat → ρ} {yes : ρ} {c : Nat → Bool} (hstop : ∀ i, i < n → c i = false → Ev (fun k => L k (i : Int)) (no i)) (hgo : ∀ i, i < n → c i = true → ∀ r, Ev (fun k => L k ((i + 1 : Nat) : Int)) r → Ev (fun k => L k (i : Int)) r)
  (hend : Ev (fun k => L k (n : Int)) yes) : ∃ r, Ev (fun k => L k 0) r ∧ (((List.range n).all c = true ∧ r = yes) ∨ ((List.range n).all c = false ∧ ∃ i, i < n ∧ r = no i)) := by
 have key : ∀ (m i : Nat), i + m = n → ∃ r, Ev (fun k => L k (i : Int)) r ∧ (((List.range' i m).all c = true ∧ r = yes) ∨ ((List.range' i m).all c = false ∧ ∃ i, i < n ∧ r = no i)) := by
  intro m
  induction m with
  | zero =>
   intro i hi
   have : i = n := by omega
   subst this
   exact ⟨yes, hend, .inl ⟨rfl, rfl⟩⟩
  | succ m ih =>
   intro i hi
   rw [List.range'_succ, List.all_cons]
   cases hc : c i with
   | false => exact ⟨no i, hstop i (by omega) hc, .inr ⟨rfl, i, by omega, rfl⟩⟩
   | true =>
    obtain ⟨r, h1, h2⟩ := ih (i + 1) (by omega)
    exact ⟨r, hgo i (by omega) hc _ h1, h2⟩
 obtain ⟨r, h1, h2⟩ := key n 0 (by omega)
 rw [← List.range_eq_range'] at h2
 exact ⟨r, h1, h2⟩
theorem all_loop' {L : Nat → Int → Option ρ} {n : Nat} {no yes : ρ} {c : Nat → Bool} (hstop : ∀ i, i < n → c i = false → Ev (fun k => L k (i : Int)) no) (hgo : ∀ i, i < n → c i = true → ∀ r, Ev (fun k => L k ((i + 1 : Nat) : Int)) r → Ev (fun k => L k (i : Int)) r)
  (hend : (List.range n).all c = true → Ev (fun k => L k (n : Int)) yes) : Ev (fun k => L k 0) (if (List.range n).all c = true then yes else no) := by
 cases h : (List.range n).all c with
 | true =>
  have := all_loop hstop hgo (hend h)
  rw [h] at this
  exact this
 | false =>
  have key : ∀ (m i : Nat), i + m = n → (∃ j, i ≤ j ∧ j < n ∧ c j = false) → Ev (fun k => L k (i : Int)) no := by
   intro m
   induction m with
   | zero => rintro i hi ⟨j, h1, h2, _⟩; omega
   | succ m ih =>
    rintro i hi ⟨j, h1, h2, h3⟩
    cases hc : c i with
    | false => exact hstop i (by omega) hc
    | true =>
     refine hgo i (by omega) hc _ (ih (i + 1) (by omega) ⟨j, ?_, h2, h3⟩)
     rcases Nat.eq_or_lt_of_le h1 with h4 | h4
     ·rw [h4, h3] at hc; cases hc
     ·exact h4
  obtain ⟨j, h1, h2⟩ := List.all_eq_false.1 h
  exact key n 0 (by omega) ⟨j, by omega, by simpa using h1, by simpa using h2⟩
theorem not_less : ∀ a b : List UInt8, (!(Op.bytesLess a b)) = (Op.bytesLess b a || b == a)
 | [], [] => rfl
 | [], _ :: _ => by simp [Op.bytesLess]
 | _ :: _, [] => by simp [Op.bytesLess]
 | x :: a, y :: b => by
  have ih := not_less a b
  simp only [Op.bytesLess]
  rcases Nat.lt_trichotomy x.toNat y.toNat with h | h | h
  ·have h1 : x < y := h
   have h2 : ¬ y < x := fun h' => by have h' : y.toNat < x.toNat := h'; omega
   have h3 : ¬ y = x := fun e => by subst e; omega
   simp [h1, h2, h3]
  ·have e : x = y := UInt8.toNat_inj.1 h
   subst e
   simp only [beq_self_eq_true, Bool.true_and, UInt8.lt_irrefl, decide_false, Bool.false_or]
   rw [ih]
   simp
  ·have h1 : ¬ x < y := fun h' => by have h' : x.toNat < y.toNat := h'; omega
   have h2 : y < x := h
   have h3 : ¬ x = y := fun e => by subst e; omega
   simp [h1, h2, h3]
end
end Go.Rf
end

section
namespace Go.Rf
def IsLow (keys : List ByteArray) (key : ByteArray) (p : Nat) : Prop := p ≤ keys.length ∧ (∀ j, j < p → Op.bytesLess (keys.getD j ByteArray.empty).toList key.toList = true) ∧ (p < keys.length → Op.bytesLess (keys.getD p ByteArray.empty).toList key.toList = false)
def IsUp (keys : List ByteArray) (key : ByteArray) (p : Nat) : Prop := p ≤ keys.length ∧ (∀ j, j < p → Op.bytesLess key.toList (keys.getD j ByteArray.empty).toList = false) ∧ (p < keys.length → Op.bytesLess key.toList (keys.getD p ByteArray.empty).toList = true)
theorem IsLow.uniq {keys : List ByteArray} {key : ByteArray} {p q : Nat} (h : IsLow keys key p) (h' : IsLow keys key q) : p = q := by
 rcases Nat.lt_trichotomy p q with h1 | h1 | h1
 ·have := h.2.2 (by have := h'.1; omega)
  rw [h'.2.1 p h1] at this
  cases this
 ·exact h1
 ·have := h'.2.2 (by have := h.1; omega)
  rw [h.2.1 q h1] at this
  cases this
theorem IsUp.uniq {keys : List ByteArray} {key : ByteArray} {p q : Nat} (h : IsUp keys key p) (h' : IsUp keys key q) : p = q := by
 rcases Nat.lt_trichotomy p q with h1 | h1 | h1
 ·have := h.2.2 (by have := h'.1; omega)
  rw [h'.2.1 p h1] at this
  cases this
 ·exact h1
 ·have := h'.2.2 (by have := h.1; omega)
  rw [h.2.1 q h1] at this
  cases this
theorem first_loop {ρ : Type} {L : Nat → Int → Option ρ} {n : Nat} {fin : Nat → ρ} {c : Nat → Bool} (hstop : ∀ i, i ≤ n → (i < n → c i = false) → Ev (fun k => L k (i : Int)) (fin i)) (hgo : ∀ i, i < n → c i = true → ∀ r, Ev (fun k => L k ((i + 1 : Nat) : Int)) r → Ev (fun k => L k (i : Int)) r) :
  ∃ p, p ≤ n ∧ (∀ j, j < p → c j = true) ∧ (p < n → c p = false) ∧ Ev (fun k => L k 0) (fin p) := by
 have key : ∀ (m i : Nat), i + m = n → (∀ j, j < i → c j = true) → ∃ p, p ≤ n ∧ (∀ j, j < p → c j = true) ∧ (p < n → c p = false) ∧ Ev (fun k => L k (i : Int)) (fin p) := by
  intro m
  induction m with
  | zero => intro i hi hb; exact ⟨i, by omega, hb, fun h => by omega, hstop i (by omega) (fun h => by omega)⟩
  | succ m ih =>
   intro i hi hb
   cases hc : c i with
   | false => exact ⟨i, by omega, hb, fun _ => hc, hstop i (by omega) (fun _ => hc)⟩
   | true =>
    obtain ⟨p, h1, h2, h3, h4⟩ := ih (i + 1) (by omega) (fun j hj => by
     rcases Nat.eq_or_lt_of_le (Nat.le_of_lt_succ hj) with rfl | h
     ·exact hc
     ·exact hb j h)
    exact ⟨p, h1, h2, h3, hgo i (by omega) hc _ h4⟩
 exact key n 0 (by omega) (fun j hj => by omega)
end Go.Rf
end

section
namespace Go.Rf
def InR (l : List Int) : Prop := ∀ d, d ∈ l → 0 ≤ d ∧ d ≤ 9999
theorem InR.take {l : List Int} (h : InR l) (n : Nat) : InR (l.take n) := fun d hd => h d (List.mem_of_mem_take hd)
end Go.Rf
end

section
namespace Go.Rf
theorem slices0 {α : Type} (l : List α) (n : Nat) : slices l 0 n = l.take n := by simp [slices]
end Go.Rf
end

section
namespace Go.Rf
theorem bytes_append (x y : List UInt8) : (⟨x.toArray⟩ : ByteArray) ++ (⟨y.toArray⟩ : ByteArray) = ⟨(x ++ y).toArray⟩ := by
 refine ByteArray.ext ?_
 rw [ByteArray.data_append]
 simp
theorem bytes_size (x : List UInt8) : (⟨x.toArray⟩ : ByteArray).size = x.length := rfl
theorem decDigits_len : ∀ (k u : Nat), u < 10 ^ (k + 1) → (Lib.decDigits u).length ≤ k + 1
 | 0, u, h => by
  rw [Lib.decDigits, dif_pos (by simpa using h)]
  simp
 | k + 1, u, h => by
  by_cases hu : u < 10
  ·rw [Lib.decDigits, dif_pos hu]
   simp
  ·rw [Lib.decDigits, dif_neg hu, List.length_append]
   have := decDigits_len k (u / 10) (by rw [Nat.pow_succ] at h; omega)
   simp
   omega
theorem u8_small {x : Int} (h0 : 0 ≤ x) (h1 : x ≤ 255) : IntKind.u8.wrap x = x := by
 unfold IntKind.wrap
 simp [IntKind.bits, IntKind.signed]
 omega
theorem bytesOf_digit {d : Nat} (h : d < 10) : bytesOf [IntKind.u8.wrap (IntKind.i64.wrap (48 + (d : Int)))] = ⟨[UInt8.ofNat (48 + d)].toArray⟩ := by
 rw [wrap64 (by omega) (by omega), u8_small (by omega) (by omega)]
 have : (48 + (d : Int)).toNat = 48 + d := by omega
 simp [bytesOf, this]
def within (n lo hi : Int) : Bool := decide (n ≥ lo) && decide (n ≤ hi)
end Go.Rf
end
