/- A part of the proof that the law FnTreeDeep answers true for every input: contracts of functions that it reaches, or its plain law. -/
import Derived.Test.YtcolgghllacloaaProg
import Derived.Below
import Derived.Deep.Draws
import Derived.Deep.AppendLies
import Derived.Maps.AppendAt
import Derived.OwnWalk
import Derived.Laws.BytesArg
import Derived.Laws.MakeOwn
import Derived.Laws.OwnMore
import Derived.Deep.OwnRows
import Derived.Tactics
import Derived.Lib.ConvBytes
import Derived.Laws.Slices
import Derived.WalkKit
import Derived.KernelRfl
import Derived.RowKit3
import Derived.Deep.LoopGhost
import Derived.Deep.QuietTactic
import Derived.BigQuiet
import Derived.WideLaws
import Derived.Deep.DeepCutAuto
import Derived.Deep.CutBlock
import Derived.Deep.RegionHeld3
import Derived.Laws.Rows
import Derived.Lib.AppendStr
import Derived.ArgAppend
import Derived.Laws.IdiomCopy
import Derived.OrdersHeld
import Derived.Laws.BitsLemmas
import Derived.RowKit
import Derived.Laws.StructEq
import Derived.Test.YtcolgghllacloaaCFnTreeDeepx0
import Derived.Test.YtcolgghllacloaaCFnTreeDeepx1
import Derived.Test.YtcolgghllacloaaCFnTreeDeepx2
import Derived.Test.YtcolgghllacloaaCFnTreeDeepx3
import Derived.Test.YtcolgghllacloaaCFnTreeDeepx4
set_option autoImplicit false
set_option linter.unusedVariables false
set_option linter.unusedSimpArgs false
namespace Go.Proofs.Ytcolgghllacloaa.Q
end Go.Proofs.Ytcolgghllacloaa.Q
namespace Go.Proofs.Ytcolgghllacloaa.R
end Go.Proofs.Ytcolgghllacloaa.R
namespace Go.Proofs.YtcolgghllacloaaW.PrintLast
end Go.Proofs.YtcolgghllacloaaW.PrintLast
namespace Go.Proofs.YtcolgghllacloaaW.PrintMore
end Go.Proofs.YtcolgghllacloaaW.PrintMore
namespace Go.Proofs.YtcolgghllacloaaW.PrintWords
end Go.Proofs.YtcolgghllacloaaW.PrintWords
section
namespace Go.Proofs.Ytcolgghllacloaa.Tm
open Go.Rf (RowIn strs ints rep nodeT ownL blk Src)
open Go.Proofs.Ytcolgghllacloaa.R (NodeR nodeZero okLen)
open Go.RowKit Go.Proofs.Ytcolgghllacloaa.Q Go.Proofs.YtcolgghllacloaaW.PrintWords Go.Proofs.YtcolgghllacloaaW.PrintLast Go.Proofs.YtcolgghllacloaaW.PrintMore
inductive RD where
 | s (v : Value) (n : Nat)
 | i (v : Value) (l : List Int)
def RD.ok (w : World) (B : Nat) : RD → Prop
 | .s v n => ∃ l : List ByteArray, l.length = n ∧ RowIn w B 9 v (strs l)
 | .i v l => RowIn w B 3 v (ints l)
abbrev BD := Nat × TypeId × List Value
structure Env (w0 : World) (B g : Nat) (Lb : List BD) (Rs : List RD) (S : List Sk) (w : World) : Prop where
 hB : B ≤ w0.heap.size
 fr : Fr B g w0 w
 bx : ∀ x ∈ Lb, CellsAt w x.1 x.2.1 x.2.2.toArray
 ne : ∀ x ∈ Lb, x.1 ≠ g ∧ w0.heap.size ≤ x.1 ∧ x.2.1 ≠ 9 ∧ x.2.1 ≠ 3
 nd : (Lb.map (·.1)).Nodup
 rows : ∀ r ∈ Rs, r.ok w B
 ts : TS w B g S
theorem ck {w : World} {a : Addr} {v : Value} (h : w.cell? a = some v) (w' : World) (hb : Below w.heap.size w w') : w'.cell? a = some v := (hb.cell (World.block_lt_of_cell? w a h)).trans h
theorem TI.apart {w : World} {B g b t : Nat} {N : List Nd} {cs : Array Value} (h : TI w B g N) (hc : CellsAt w b t cs) (hg : b ≠ g) (h2 : t ≠ 9) (h3 : t ≠ 3) (j : Nat) (u : Value) : TI (w.setCell ⟨b, j, none⟩ u) B g N := by
 obtain ⟨cur, k1, k2, k3, k4⟩ := h
 refine ⟨cur, k1.other hg.symm _, k2, k3, fun i n hn => ?_⟩
 obtain ⟨uK, uV, uI, e0, e1, e2, e3, rK, rV, rI⟩ := k4 i n hn
 exact ⟨uK, uV, uI, e0, e1, e2, e3, rK.keep fun x hx => Below.heap_setCell _ _ _ _ (RowIn.ne rK hc h2.symm x hx), rV.keep fun x hx => Below.heap_setCell _ _ _ _ (RowIn.ne rV hc h2.symm x hx), rI.keep fun x hx => Below.heap_setCell _ _ _ _ (RowIn.ne rI hc h3.symm x hx)⟩
theorem nth_mem {α : Type} {l : List α} {k : Nat} {x : α} (h : l[k]? = some x) : x ∈ l := List.mem_of_getElem? h
theorem nodup_at : ∀ {l : List BD} {i j : Nat} {x y : BD}, (l.map (·.1)).Nodup → l[i]? = some x → l[j]? = some y → x.1 = y.1 → i = j := by
 intro l i j x y hn hi hj e
 have h1 : (l.map (·.1))[i]? = some x.1 := by rw [List.getElem?_map, hi]; rfl
 have h2 : (l.map (·.1))[j]? = some x.1 := by rw [List.getElem?_map, hj, e]; rfl
 obtain ⟨hi', e1⟩ := List.getElem?_eq_some_iff.1 h1
 obtain ⟨hj', e2⟩ := List.getElem?_eq_some_iff.1 h2
 have hp := List.pairwise_iff_getElem.1 hn
 rcases Nat.lt_trichotomy i j with h | h | h
 ·exact absurd (e1.trans e2.symm) (hp i j hi' hj' h)
 ·exact h
 ·exact absurd (e2.trans e1.symm) (hp j i hj' hi' h)
section
variable {w0 w w' : World} {B g : Nat} {Lb : List BD} {Rs : List RD} {S S' : List Sk}
theorem Env.size (E : Env w0 B g Lb Rs S w) : w0.heap.size ≤ w.heap.size := E.fr.size
theorem Env.hBw (E : Env w0 B g Lb Rs S w) : B ≤ w.heap.size := Nat.le_trans E.hB E.fr.size
theorem Env.cur (E : Env w0 B g Lb Rs S w) : ∃ cur, CellsAt w g 72 cur := by
 obtain ⟨N, h, _⟩ := E.ts
 exact h.cur
theorem Env.glt (E : Env w0 B g Lb Rs S w) : g < w.heap.size := by
 obtain ⟨cur, h⟩ := E.cur
 exact h.lt
theorem Env.start (hB : B ≤ w.heap.size) (h : TS w B g S) : Env w B g [] [] S w := by
 obtain ⟨N, h1, h2⟩ := h
 exact ⟨hB, Fr.refl (.inl h1.cur), fun _ h => (by cases h), fun _ h => (by cases h), List.nodup_nil, fun _ h => (by cases h), ⟨N, h1, h2⟩⟩
theorem RD.below {r : RD} (h : r.ok w B) (m : Below w.heap.size w w') : r.ok w' B := by
 cases r with
 | s v n => obtain ⟨l, h1, h2⟩ := h; exact ⟨l, h1, h2.below m⟩
 | i v l => exact RowIn.below h m
theorem Env.below (E : Env w0 B g Lb Rs S w) (m : Below w.heap.size w w') : Env w0 B g Lb Rs S w' :=
 ⟨E.hB, E.fr.trans (Fr.of_below m E.hBw (.inl E.cur)), fun x hx => (E.bx x hx).below m (E.bx x hx).lt, E.ne, E.nd, fun r hr => RD.below (r := r) (E.rows r hr) m, E.ts.below m⟩
theorem Env.step (E : Env w0 B g Lb Rs S w) (F : Fr B g w w') (hS : TS w' B g S') : Env w0 B g Lb Rs S' w' := by
 refine ⟨E.hB, E.fr.trans F, fun x hx => F.cells (E.bx x hx) (E.ne x hx).1 (E.ne x hx).2.2.1, E.ne, E.nd, fun r hr => ?_, hS⟩
 have := E.rows r hr
 cases r with
 | s v n =>
  obtain ⟨l, h1, h2⟩ := this
  obtain ⟨l', h3, h4⟩ := RowIn.weak h2 F
  exact ⟨l', h3.trans h1, h4⟩
 | i v l => exact RowIn.int this F
theorem Env.alloc (E : Env w0 B g Lb Rs S w) (t : TypeId) (cs : List Value) (h1 : t ≠ 9) (h2 : t ≠ 3) : Env w0 B g ((w.heap.size, t, cs) :: Lb) Rs S (w.alloc (.cells cs.toArray t)) := by
 have E' := E.below ((Below.refl _ w).alloc (Nat.le_refl _) (.cells cs.toArray t))
 refine ⟨E.hB, E'.fr, fun x hx => ?_, fun x hx => ?_, ?_, E'.rows, E'.ts⟩
 ·rcases List.mem_cons.1 hx with rfl | hx
  ·exact CellsAt.new w t _
  ·exact E'.bx x hx
 ·rcases List.mem_cons.1 hx with rfl | hx
  ·exact ⟨by have := E.glt; simp only; omega, E.size, h1, h2⟩
  ·exact E.ne x hx
 ·rw [List.map_cons, List.nodup_cons]
  refine ⟨fun hm => ?_, E.nd⟩
  obtain ⟨x, hx, e⟩ := List.mem_map.1 hm
  have := (E.bx x hx).lt
  simp only at e
  omega
theorem Env.cell (E : Env w0 B g Lb Rs S w) {k j b : Nat} {t : TypeId} {cs : List Value} {v : Value} (hk : Lb[k]? = some (b, t, cs)) (hj : cs[j]? = some v) : w.cell? ⟨b, j, none⟩ = some v := by
 rw [(E.bx _ (nth_mem hk)).cell]
 simpa using hj
theorem Env.row (E : Env w0 B g Lb Rs S w) {k : Nat} {r : RD} (hk : Rs[k]? = some r) : r.ok w B := E.rows r (nth_mem hk)
theorem Env.set1 (E : Env w0 B g Lb Rs S w) {k j b : Nat} {t : TypeId} {cs : List Value} (hk : Lb[k]? = some (b, t, cs)) (v : Value) : Env w0 B g (Lb.set k (b, t, cs.set j v)) Rs S (w.setCell ⟨b, j, none⟩ v) := by
 have hb := E.bx _ (nth_mem hk)
 have hn := E.ne _ (nth_mem hk)
 have hlt := (List.getElem?_eq_some_iff.1 hk).1
 refine ⟨E.hB, E.fr.fresh hn.2.1 E.hB, fun x hx => ?_, fun x hx => ?_, ?_, fun r hr => ?_, ?_⟩
 ·obtain ⟨i, hi⟩ := List.mem_iff_getElem?.1 hx
  by_cases e : k = i
  ·subst e
   rw [List.getElem?_set_self hlt] at hi
   obtain rfl := Option.some.inj hi
   have := hb.set j v
   simpa using this
  ·rw [List.getElem?_set_ne e] at hi
   exact (E.bx x (nth_mem hi)).other (fun e2 => e (nodup_at E.nd hk hi e2.symm)) v
 ·obtain ⟨i, hi⟩ := List.mem_iff_getElem?.1 hx
  by_cases e : k = i
  ·subst e
   rw [List.getElem?_set_self hlt] at hi
   obtain rfl := Option.some.inj hi
   exact hn
  ·rw [List.getElem?_set_ne e] at hi
   exact E.ne x (nth_mem hi)
 ·have : (Lb.set k (b, t, cs.set j v)).map (·.1) = Lb.map (·.1) := by
   apply List.ext_getElem?
   intro i
   rw [List.getElem?_map, List.getElem?_map]
   by_cases e : k = i
   ·subst e
    rw [List.getElem?_set_self hlt, hk]
    rfl
   ·rw [List.getElem?_set_ne e]
  rw [this]
  exact E.nd
 ·have := E.rows r hr
  cases r with
  | s u n =>
   obtain ⟨l, h1, h2⟩ := this
   exact ⟨l, h1, h2.keep fun x hx => Below.heap_setCell _ _ _ _ (RowIn.ne h2 hb (Ne.symm hn.2.2.1) x hx)⟩
  | i u l => exact RowIn.keep this fun x hx => Below.heap_setCell _ _ _ _ (RowIn.ne this hb (Ne.symm hn.2.2.2) x hx)
 ·obtain ⟨N, h1, h2⟩ := E.ts
  exact ⟨N, h1.apart hb hn.1 hn.2.2.1 hn.2.2.2 j v, h2⟩
theorem Env.set2 (E : Env w0 B g Lb Rs S w) {k b : Nat} {t : TypeId} {x0 x1 : Value} (hk : Lb[k]? = some (b, t, [x0, x1])) (v0 v1 : Value) : Env w0 B g (Lb.set k (b, t, [v0, v1])) Rs S ((w.setCell ⟨b, 0, none⟩ v0).setCell ⟨b, 1, none⟩ v1) := by
 have hlt := (List.getElem?_eq_some_iff.1 hk).1
 have E1 := E.set1 (j := 0) hk v0
 have E2 := E1.set1 (k := k) (j := 1) (List.getElem?_set_self hlt) v1
 simpa using E2
theorem Env.set4 (E : Env w0 B g Lb Rs S w) {k b : Nat} {t : TypeId} {x0 x1 x2 x3 : Value} (hk : Lb[k]? = some (b, t, [x0, x1, x2, x3])) (v0 v1 v2 v3 : Value) : Env w0 B g (Lb.set k (b, t, [v0, v1, v2, v3])) Rs S ((((w.setCell ⟨b, 0, none⟩ v0).setCell ⟨b, 1, none⟩ v1).setCell ⟨b, 2, none⟩ v2).setCell ⟨b, 3, none⟩ v3) := by
 have hlt := (List.getElem?_eq_some_iff.1 hk).1
 have E1 := E.set1 (j := 0) hk v0
 have E2 := E1.set1 (k := k) (j := 1) (List.getElem?_set_self hlt) v1
 have E3 := E2.set1 (k := k) (j := 2) (List.getElem?_set_self (by simpa using hlt)) v2
 have E4 := E3.set1 (k := k) (j := 3) (List.getElem?_set_self (by simpa using hlt)) v3
 simpa using E4
theorem Env.read (E : Env w0 B g Lb Rs S w) {i : Nat} {s : Sk} (hs : S[i]? = some s) : ∃ uK uV uI, w.cell? ⟨g, i * 4, none⟩ = some (.bool s.1) ∧ w.cell? ⟨g, i * 4 + 1, none⟩ = some uK ∧ w.cell? ⟨g, i * 4 + 2, none⟩ = some uV ∧ w.cell? ⟨g, i * 4 + 3, none⟩ = some uI ∧ Env w0 B g Lb (.s uK s.2.1 :: .s uV s.2.2.1 :: .i uI s.2.2.2 :: Rs) S w := by
 obtain ⟨N, h1, h2⟩ := E.ts
 rw [← h2, List.getElem?_map] at hs
 obtain ⟨n, hn, rfl⟩ := Option.map_eq_some_iff.1 hs
 obtain ⟨uK, uV, uI, q0, q1, q2, q3, rK, rV, rI⟩ := h1.node hn
 refine ⟨uK, uV, uI, q0, q1, q2, q3, E.hB, E.fr, E.bx, E.ne, E.nd, fun r hr => ?_, E.ts⟩
 rcases List.mem_cons.1 hr with rfl | hr
 ·exact ⟨_, rfl, rK⟩
 rcases List.mem_cons.1 hr with rfl | hr
 ·exact ⟨_, rfl, rV⟩
 rcases List.mem_cons.1 hr with rfl | hr
 ·exact rI
 exact E.rows r hr
theorem Env.setN (E : Env w0 B g Lb Rs S w) {i : Nat} {lf : Bool} {vK vV vI : Value} {nK nV : Nat} {lI : List Int} (hi : i < S.length) (rK : (RD.s vK nK).ok w B) (rV : (RD.s vV nV).ok w B) (rI : (RD.i vI lI).ok w B) :
  Env w0 B g Lb Rs (S.set i (lf, nK, nV, lI)) (Go.Proofs.Ytcolgghllacloaa.Tm.set4 w g (i * 4) (.bool lf) vK vV vI) := by
 obtain ⟨N, h1, h2⟩ := E.ts
 obtain ⟨K, k1, k2⟩ := rK
 obtain ⟨V, v1, v2⟩ := rV
 obtain ⟨cur, hcur⟩ := h1.cur
 have hi' : i < N.length := by rw [← h2, List.length_map] at hi; exact hi
 have hT := h1.set (i := i) hi' (n := (lf, K, V, lI, ())) k2 v2 rI
 refine E.step (Fr.node4 hcur h1.base _ _ _ _ _) ⟨_, hT, ?_⟩
 rw [List.map_set, h2]
 unfold sk
 simp only [k1, v1]
theorem Env.str (E : Env w0 B g Lb Rs S w) {b m c n j : Nat} (hr : (RD.s (.slice (some ⟨b, 0, none⟩) m c) n).ok w B) (s : ByteArray) : Env w0 B g Lb Rs S (w.setCell ⟨b, j, none⟩ (.string s)) := by
 obtain ⟨l, h1, h2⟩ := hr
 obtain ⟨N, h3, h4⟩ := E.ts
 rcases h2 with ⟨e, _⟩ | ⟨x, cap, cr, e, hb, hh, _⟩
 ·cases e
 ·injection e with e
  injection e with e
  injection e with e
  subst e
  exact E.step (Fr.str hh hb (.inl E.cur) j s) (by rw [← h4]; exact h3.str hh hb j s)
theorem Env.add (E : Env w0 B g Lb Rs S w) {r : RD} (h : r.ok w B) : Env w0 B g Lb (r :: Rs) S w := ⟨E.hB, E.fr, E.bx, E.ne, E.nd, fun x hx => (List.mem_cons.1 hx).elim (fun e => e ▸ h) (fun hx => E.rows x hx), E.ts⟩
theorem Env.norows (E : Env w0 B g Lb Rs S w) : Env w0 B g Lb [] S w := ⟨E.hB, E.fr, E.bx, E.ne, E.nd, fun _ h => (by cases h), E.ts⟩
end
theorem Env.readf {w0 w : World} {B g : Nat} {Lb : List BD} {Rs : List RD} {S : List Sk} (E : Env w0 B g Lb Rs S w) {i : Nat} {lf : Bool} {nK nV : Nat} {I : List Int} (hs : S[i]? = some (lf, nK, nV, I)) : ∃ AK cK AV cV AI cI, w.cell? ⟨g, i * 4, none⟩ = some (.bool lf) ∧ w.cell? ⟨g, i * 4 + 1, none⟩ = some (.slice AK nK cK) ∧ w.cell? ⟨g, i * 4 + 2, none⟩ = some (.slice AV nV cV) ∧ w.cell? ⟨g, i * 4 + 3, none⟩ = some (.slice AI I.length cI) ∧ Env w0 B g Lb (.s (.slice AK nK cK) nK :: .s (.slice AV nV cV) nV :: .i (.slice AI I.length cI) I :: Rs) S w := by
 obtain ⟨uK, uV, uI, q0, q1, q2, q3, E'⟩ := E.read hs
 obtain ⟨l1, h1, r1⟩ := E'.row (k := 0) rfl
 obtain ⟨l2, h2, r2⟩ := E'.row (k := 1) rfl
 have r3 := E'.row (k := 2) rfl
 simp only at h1 h2 q0
 obtain ⟨AK, cK, rfl⟩ := RowIn.sform r1
 obtain ⟨AV, cV, rfl⟩ := RowIn.sform r2
 obtain ⟨AI, cI, rfl⟩ := RowIn.sform (l := I) r3
 rw [h1] at q1 E'
 rw [h2] at q2 E'
 exact ⟨AK, cK, AV, cV, AI, cI, q0, q1, q2, q3, E'⟩
section
variable {w : World} {B : Nat} {v : Value} {n b m c j : Nat} {l : List Int}
theorem RD.sform (h : (RD.s v n).ok w B) : ∃ A c, v = .slice A n c := by
 obtain ⟨l, rfl, h⟩ := h
 exact RowIn.sform h
theorem RD.iform (h : (RD.i v l).ok w B) : ∃ A c, v = .slice A l.length c := RowIn.sform (l := l) h
theorem RD.sblock (h : (RD.s v n).ok w B) (hn : 0 < n) : ∃ b c, v = .slice (some ⟨b, 0, none⟩) n c ∧ n ≤ c := by
 obtain ⟨l, rfl, h⟩ := h
 have hl : (strs l).length = l.length := List.length_map _
 obtain ⟨b, c, e, _, h2, _⟩ := RowIn.block h (by rw [hl]; exact hn)
 rw [hl] at e h2
 exact ⟨b, c, e, h2⟩
theorem RD.iblock (h : (RD.i v l).ok w B) (hn : 0 < l.length) : ∃ b c, v = .slice (some ⟨b, 0, none⟩) l.length c ∧ l.length ≤ c := by
 have hl : (ints l).length = l.length := List.length_map _
 obtain ⟨b, c, e, _, h2, _⟩ := RowIn.block h (by rw [hl]; exact hn)
 rw [hl] at e h2
 exact ⟨b, c, e, h2⟩
theorem RD.sblk {A : Option Addr} (h : (RD.s (.slice A m c) n).ok w B) (hn : 0 < n) : ∃ b, A = some ⟨b, 0, none⟩ ∧ n ≤ c := by
 obtain ⟨b, c', e, h2⟩ := RD.sblock h hn
 injection e with e1 e2 e3
 subst e3
 exact ⟨b, e1, h2⟩
theorem RD.iblk {A : Option Addr} (h : (RD.i (.slice A m c) l).ok w B) (hn : 0 < l.length) : ∃ b, A = some ⟨b, 0, none⟩ ∧ l.length ≤ c := by
 obtain ⟨b, c', e, h2⟩ := RD.iblock h hn
 injection e with e1 e2 e3
 subst e3
 exact ⟨b, e1, h2⟩
theorem RD.sat (h : (RD.s (.slice (some ⟨b, 0, none⟩) m c) n).ok w B) (hj : j < n) : ∃ s, w.cell? ⟨b, j, none⟩ = some (.string s) := by
 obtain ⟨l, rfl, h⟩ := h
 exact ⟨l[j], RowIn.at h (by simp [Go.Rf.strs, hj])⟩
theorem RD.iat (h : (RD.i (.slice (some ⟨b, 0, none⟩) m c) l).ok w B) {x : Int} (hj : l[j]? = some x) : w.cell? ⟨b, j, none⟩ = some (.int .i64 x) :=
 RowIn.at h (by rw [show ints l = l.map (Value.int .i64) from rfl, List.getElem?_map, hj]; rfl)
theorem RD.scells (h : (RD.s (.slice (some ⟨b, 0, none⟩) m c) n).ok w B) : ∃ cs, CellsAt w b 9 cs ∧ n ≤ cs.size := by
 obtain ⟨l, rfl, h⟩ := h
 have hl : (strs l).length = l.length := List.length_map _
 rcases h with ⟨e, _⟩ | ⟨x, cap, cr, e, hb, hh, h1, h2, h3, _⟩
 ·cases e
 ·injection e with e
  injection e with e
  injection e with e
  subst e
  exact ⟨cr, hh, by omega⟩
end
end Go.Proofs.Ytcolgghllacloaa.Tm
end

section
namespace Go.Proofs.Ytcolgghllacloaa.Tm
open Go.Rf (RowIn strs ints rep nodeT ownL blk Src IsLow IsUp)
open Go.Proofs.Ytcolgghllacloaa.R (NodeR nodeZero okLen okNode)
open Go.RowKit Go.Proofs.Ytcolgghllacloaa.Q Go.Proofs.YtcolgghllacloaaW.PrintWords Go.Proofs.YtcolgghllacloaaW.PrintLast Go.Proofs.YtcolgghllacloaaW.PrintMore
def SS (w : World) (v : Value) (n : Nat) : Prop := ∃ l : List ByteArray, l.length = n ∧ SlAt w v (strs l)
def SI (w : World) (v : Value) (l : List Int) : Prop := SlAt w v (ints l)
section
variable {w w' : World} {B : Nat} {v : Value} {n : Nat} {l : List Int}
theorem RD.ss (h : (RD.s v n).ok w B) : SS w v n := by
 obtain ⟨l, h1, h2⟩ := h
 exact ⟨l, h1, RowIn.sl h2 (strs_one l)⟩
theorem RD.si (h : (RD.i v l).ok w B) : SI w v l := RowIn.sl h (ints_one l)
theorem SS.below (h : SS w v n) (m : Below w.heap.size w w') : SS w' v n := by
 obtain ⟨l, h1, A, c, rfl, h3, h4, h5⟩ := h
 refine ⟨l, h1, A, c, rfl, h3, fun j u hj => ?_, h5⟩
 obtain ⟨a, e1, e2, e3⟩ := h4 j u hj
 exact ⟨a, e1, e2, ck e3 w' m⟩
theorem SI.below (h : SI w v l) (m : Below w.heap.size w w') : SI w' v l := by
 obtain ⟨A, c, rfl, h3, h4, h5⟩ := h
 refine ⟨A, c, rfl, h3, fun j u hj => ?_, h5⟩
 obtain ⟨a, e1, e2, e3⟩ := h4 j u hj
 exact ⟨a, e1, e2, ck e3 w' m⟩
theorem SS.take {A : Option Addr} {k c m : Nat} (h : SS w (.slice A k c) n) (hm : m ≤ n) : SS w (.slice A m c) m := by
 obtain ⟨l, rfl, h⟩ := h
 have := h.take (i := m) (by rw [List.length_map]; exact hm)
 rw [← show strs (l.take m) = (strs l).take m from List.map_take] at this
 exact ⟨l.take m, by rw [List.length_take]; omega, this⟩
theorem SI.take {A : Option Addr} {k c m : Nat} (h : SI w (.slice A k c) l) (hm : m ≤ l.length) : SI w (.slice A m c) (l.take m) := by
 have := SlAt.take h (i := m) (by rw [List.length_map]; exact hm)
 rw [← show ints (l.take m) = (ints l).take m from List.map_take] at this
 exact this
theorem SS.drop {b k c m : Nat} (h : SS w (.slice (some ⟨b, 0, none⟩) k c) n) (hm : m ≤ n) : SS w (.slice (if c = m then some ⟨b, 0, none⟩ else some ⟨b, m, none⟩) (k - m) (c - m)) (n - m) := by
 obtain ⟨l, rfl, h⟩ := h
 have := h.drop (i := m) (by rw [List.length_map]; exact hm)
 rw [← show strs (l.drop m) = (strs l).drop m from List.map_drop] at this
 exact ⟨l.drop m, by rw [List.length_drop], this⟩
theorem SI.drop {b k c m : Nat} (h : SI w (.slice (some ⟨b, 0, none⟩) k c) l) (hm : m ≤ l.length) : SI w (.slice (if c = m then some ⟨b, 0, none⟩ else some ⟨b, m, none⟩) (k - m) (c - m)) (l.drop m) := by
 have := SlAt.drop h (i := m) (by rw [List.length_map]; exact hm)
 rw [← show ints (l.drop m) = (ints l).drop m from List.map_drop] at this
 exact this
end
section
variable {w : World} {b n c m : Nat}
theorem sl_s_hi (hm : m ≤ c) : (Instr.sliceAt 62 (.slice (some ⟨b, 0, none⟩) n c) none (some (.int .i64 (m : Int))) none).run Try.prog w = .ok (.slice (some ⟨b, 0, none⟩) m c) w := by
 simp [go_sem, Instr.sliceAt, hm]
theorem sl_i_hi (hm : m ≤ c) : (Instr.sliceAt 65 (.slice (some ⟨b, 0, none⟩) n c) none (some (.int .i64 (m : Int))) none).run Try.prog w = .ok (.slice (some ⟨b, 0, none⟩) m c) w := by
 simp [go_sem, Instr.sliceAt, hm]
theorem sl_s_lo (hm : m ≤ n) (hc : n ≤ c) : (Instr.sliceAt 62 (.slice (some ⟨b, 0, none⟩) n c) (some (.int .i64 (m : Int))) none none).run Try.prog w = .ok (.slice (if c = m then some ⟨b, 0, none⟩ else some ⟨b, m, none⟩) (n - m) (c - m)) w := by
 simp [go_sem, Instr.sliceAt, hm, hc]
theorem sl_i_lo (hm : m ≤ n) (hc : n ≤ c) : (Instr.sliceAt 65 (.slice (some ⟨b, 0, none⟩) n c) (some (.int .i64 (m : Int))) none none).run Try.prog w = .ok (.slice (if c = m then some ⟨b, 0, none⟩ else some ⟨b, m, none⟩) (n - m) (c - m)) w := by
 simp [go_sem, Instr.sliceAt, hm, hc]
theorem sl_s_lo1 (hm : 1 ≤ n) (hc : n ≤ c) : (Instr.sliceAt 62 (.slice (some ⟨b, 0, none⟩) n c) (some (.int .i64 1)) none none).run Try.prog w = .ok (.slice (if c = 1 then some ⟨b, 0, none⟩ else some ⟨b, 1, none⟩) (n - 1) (c - 1)) w := sl_s_lo (m := 1) hm hc
theorem sl_i_lo1 (hm : 1 ≤ n) (hc : n ≤ c) : (Instr.sliceAt 65 (.slice (some ⟨b, 0, none⟩) n c) (some (.int .i64 1)) none none).run Try.prog w = .ok (.slice (if c = 1 then some ⟨b, 0, none⟩ else some ⟨b, 1, none⟩) (n - 1) (c - 1)) w := sl_i_lo (m := 1) hm hc
end
section
variable {w : World} {x y : Operand} {n m : Nat} {i j : Int}
theorem n_add (h : n < 1000000) : (do eqGuard .add 3 x y (.int .i64 (n : Int)) (.int .i64 1); binOp .add 3 (.int .i64 (n : Int)) (.int .i64 1) : Sem Value).run Try.prog w = .ok (.int .i64 ((n + 1 : Nat) : Int)) w := by
 have e : IntKind.i64.wrap ((n : Int) + 1) = (n : Int) + 1 := Go.Rf.wrap64 (by omega) (by omega)
 simp [go_sem, e]
theorem n_sub (h : n < 1000000) : (do eqGuard .sub 3 x y (.int .i64 ((n + 1 : Nat) : Int)) (.int .i64 1); binOp .sub 3 (.int .i64 ((n + 1 : Nat) : Int)) (.int .i64 1) : Sem Value).run Try.prog w = .ok (.int .i64 (n : Int)) w := by
 have e : IntKind.i64.wrap (((n + 1 : Nat) : Int) - 1) = (n : Int) := by rw [Go.Rf.wrap64 (by omega) (by omega)]; omega
 simp [go_sem]
 simpa using e
theorem n_lt : (do eqGuard .lss 3 x y (.int .i64 i) (.int .i64 j); binOp .lss 3 (.int .i64 i) (.int .i64 j) : Sem Value).run Try.prog w = .ok (.bool (decide (i < j))) w := by simp [go_sem]
theorem n_le : (do eqGuard .leq 3 x y (.int .i64 i) (.int .i64 j); binOp .leq 3 (.int .i64 i) (.int .i64 j) : Sem Value).run Try.prog w = .ok (.bool (decide (i ≤ j))) w := by simp [go_sem]
theorem n_gt : (do eqGuard .gtr 3 x y (.int .i64 i) (.int .i64 j); binOp .gtr 3 (.int .i64 i) (.int .i64 j) : Sem Value).run Try.prog w = .ok (.bool (decide (i > j))) w := by simp [go_sem]
theorem n_eq : (do eqGuard .eql 3 x y (.int .i64 i) (.int .i64 j); binOp .eql 3 (.int .i64 i) (.int .i64 j) : Sem Value).run Try.prog w = .ok (.bool (i == j)) w := by simp [go_sem]
end
abbrev Ans (R : Value → World → Prop) : Ending → World → Prop := fun e w' => ∃ v, e = .returned v ∧ R v w'
def NodeV (w : World) (B : Nat) (v : Value) (s : Sk) : Prop := ∃ uK uV uI, v = .agg #[.bool s.1, uK, uV, uI] ∧ (RD.s uK s.2.1).ok w B ∧ (RD.s uV s.2.2.1).ok w B ∧ (RD.i uI s.2.2.2).ok w B
theorem NodeV.of {w : World} {B B' : Nat} {v : Value} {n : Nd} (h : NodeR w B' v n) (hB : B ≤ B') : NodeV w B v (sk n) := by
 obtain ⟨uK, uV, uI, e, h1, h2, h3⟩ := h
 exact ⟨uK, uV, uI, e, ⟨_, rfl, h1.weaken hB⟩, ⟨_, rfl, h2.weaken hB⟩, h3.weaken hB⟩
section
variable {w : World} {B : Nat} {v vK vV vI : Value} {n nK nV i : Nat} {l : List Int} {s : ByteArray} {x : Int}
theorem c_in (hB : B ≤ w.heap.size) (h : SS w v n) (hn : n ≤ 1000) (hi : i ≤ n) : Calls Try.prog 93 #[v, .int .i64 (i : Int), .string s] w (Ans fun u w' => (RD.s u (n + 1)).ok w' B ∧ Below w.heap.size w w') := by
 obtain ⟨L, rfl, h⟩ := h
 refine (Go.Proofs.Ytcolgghllacloaa.R.ask_in (i := i) (s := s) h.srep (by unfold okLen; omega) hi).mono ?_
 rintro e w' ⟨u, rfl, h1, h2⟩
 exact ⟨u, rfl, ⟨_, by simp; omega, h1.weaken hB⟩, h2⟩
theorem c_inNum (hB : B ≤ w.heap.size) (h : SI w v l) (hn : l.length ≤ 1000) (hi : i ≤ l.length) : Calls Try.prog 94 #[v, .int .i64 (i : Int), .int .i64 x] w (Ans fun u w' => (RD.i u (l.take i ++ [x] ++ l.drop i)).ok w' B ∧ Below w.heap.size w w') := by
 refine (Go.Proofs.Ytcolgghllacloaa.R.ask_inNum (i := i) (s := x) (SlAt.irep h) (by unfold okLen; omega) hi).mono ?_
 rintro e w' ⟨u, rfl, h1, h2⟩
 exact ⟨u, rfl, h1.weaken hB, h2⟩
theorem c_out (hB : B ≤ w.heap.size) {B' : Nat} (h : (RD.s v n).ok w B') (hn : n ≤ 1000) (hi : i < n) : Calls Try.prog 89 #[v, .int .i64 (i : Int)] w (Ans fun u w' => (RD.s u (n - 1)).ok w' B ∧ Below w.heap.size w w') := by
 obtain ⟨L, rfl, h⟩ := h
 refine (out_any w B' v i L h (by omega) hi).mono ?_
 rintro e w' ⟨u, rfl, h1, h2⟩
 exact ⟨u, rfl, ⟨_, by rw [List.length_eraseIdx_of_lt hi], h1.weaken hB⟩, h2⟩
theorem c_outNum (hB : B ≤ w.heap.size) {B' : Nat} (h : (RD.i v l).ok w B') (hn : l.length ≤ 1000) (hi : i < l.length) : Calls Try.prog 101 #[v, .int .i64 (i : Int)] w (Ans fun u w' => (RD.i u (l.eraseIdx i)).ok w' B ∧ Below w.heap.size w w') := by
 refine (outNum_any w B' v i l h (by omega) hi).mono ?_
 rintro e w' ⟨u, rfl, h1, h2⟩
 exact ⟨u, rfl, h1.weaken hB, h2⟩
theorem c_leafOf (hB : B ≤ w.heap.size) (h1 : SS w vK nK) (h2 : SS w vV nV) (hn : nK ≤ 1000) (hm : nV ≤ 1000) : Calls Try.prog 88 #[vK, vV] w (Ans fun u w' => NodeV w' B u (true, nK, nV, []) ∧ Below w.heap.size w w') := by
 obtain ⟨K, rfl, h1⟩ := h1
 obtain ⟨V, rfl, h2⟩ := h2
 refine (Go.Proofs.Ytcolgghllacloaa.R.ask_leafOf h1.srep h2.srep (by unfold okLen; omega) (by unfold okLen; omega)).mono ?_
 rintro e w' ⟨u, rfl, h3, h4⟩
 exact ⟨u, rfl, NodeV.of h3 hB, h4⟩
theorem c_innerOf (hB : B ≤ w.heap.size) (h1 : SS w vK nK) (h2 : SI w vI l) (hn : nK ≤ 1000) (hm : l.length ≤ 1000) : Calls Try.prog 78 #[vK, vI] w (Ans fun u w' => NodeV w' B u (false, nK, 0, l) ∧ Below w.heap.size w w') := by
 obtain ⟨K, rfl, h1⟩ := h1
 refine (Go.Proofs.Ytcolgghllacloaa.R.ask_innerOf h1.srep (SlAt.irep h2) (by unfold okLen; omega) (by unfold okLen; omega)).mono ?_
 rintro e w' ⟨u, rfl, h3, h4⟩
 exact ⟨u, rfl, NodeV.of h3 hB, h4⟩
theorem c_place {key : ByteArray} (h : SS w v n) (hn : n ≤ 1000) : Calls Try.prog 86 #[v, .string key] w (Ans fun u w' => ∃ p : Nat, u = .int .i64 (p : Int) ∧ p ≤ n ∧ Below w.heap.size w w') := by
 obtain ⟨L, rfl, h⟩ := h
 refine (Go.Proofs.Ytcolgghllacloaa.R.ask_place h.srep (by unfold okLen; omega)).mono ?_
 rintro e w' ⟨p, rfl, h1, h2⟩
 exact ⟨_, rfl, p, rfl, h1.1, h2⟩
theorem c_kid {key : ByteArray} (h : SS w v n) (hn : n ≤ 1000) : Calls Try.prog 90 #[v, .string key] w (Ans fun u w' => ∃ p : Nat, u = .int .i64 (p : Int) ∧ p ≤ n ∧ Below w.heap.size w w') := by
 obtain ⟨L, rfl, h⟩ := h
 refine (Go.Proofs.Ytcolgghllacloaa.R.ask_kid h.srep (by unfold okLen; omega)).mono ?_
 rintro e w' ⟨p, rfl, h1, h2⟩
 exact ⟨_, rfl, p, rfl, h1.1, h2⟩
theorem c_free {g c : Nat} {root : Int} {S : List Sk} (h : TS w B g S) (hn : S.length ≤ 1000) (hc : S.length ≤ c) : Calls Try.prog 77 #[tv root g S.length c] w (Ans fun u w' => ∃ r : Int, u = .int .i64 r ∧ (r = -1 ∨ ∃ f : Nat, r = (f : Int) ∧ S[f]? = some zS) ∧ Below w.heap.size w w') := by
 obtain ⟨N, h1, rfl⟩ := h
 rw [List.length_map] at hn hc ⊢
 refine (Go.Proofs.Ytcolgghllacloaa.R.ask_free (h1.rep hc) (by unfold okLen; omega)).mono ?_
 rintro e w' ⟨r, rfl, hr, m⟩
 refine ⟨_, rfl, r, rfl, hr.imp id ?_, m⟩
 rintro ⟨f, x, rfl, hx, hz⟩
 exact ⟨f, rfl, by rw [List.getElem?_map, hx, Option.map_some, zero_sk hz]⟩
end
def argL : List Value → Nat → List (Nat × Value)
 | [], _ => []
 | v :: l, k => (k, v) :: argL l (k + 1)
theorem lk_argL : ∀ (l : List Value) (k j : Nat) (v : Value), lk (argL l k) j = some v → k ≤ j ∧ l[j - k]? = some v
 | [], _, _, _, h => by cases h
 | u :: l, k, j, v, h => by
  unfold argL lk at h
  cases e : Nat.beq k j with
  | true =>
   obtain rfl := Nat.eq_of_beq_eq_true e
   rw [e] at h
   simpa using h
  | false =>
   rw [e] at h
   obtain ⟨h1, h2⟩ := lk_argL l (k + 1) j v h
   refine ⟨by omega, ?_⟩
   rw [show j - k = (j - (k + 1)) + 1 by omega]
   simpa using h2
theorem enter {P : Program} {f : FuncId} {fn : Func} {c : Code} {args : List Value} {w : World} {R : Ending → World → Prop} {n : Nat} (hf : P.funcs[f]? = some fn) (hb : fn.body = some c) (hn : fn.ntmps = n) (hl : Nat.ble args.length n = true)
  (h : ∀ a, Tm a n (argL args 0) → c.wp P (bodyPost P fn R) a w) : Calls P f args.toArray w R := by
 have hl := Nat.le_of_ble_eq_true hl
 refine calls_of_wp hf hb (h _ ⟨?_, rfl, fun k v hk => ?_⟩)
 ·simp [hn]; omega
 ·obtain ⟨_, h2⟩ := lk_argL _ _ _ _ hk
  rw [Nat.sub_zero] at h2
  have hlt := (List.getElem?_eq_some_iff.1 h2).1
  rw [Array.getElem?_append_left (by simpa using hlt)]
  simpa using h2
theorem Tm.getD {a : Act} {n : Nat} {L : List (Nat × Value)} (h : Tm a n L) {k : Nat} {v : Value} (hk : lk L k = some v) : a.tmps.getD k undef = v := by
 have := h.get k v hk
 simp [this]
section
variable {fn : Func} {R : Ending → World → Prop} {a : Act} {w : World} {n p q b d : Nat} {L : List (Nat × Value)} {v0 v1 u0 u1 u2 u3 : Value}
theorem ret_t (hT : Tm a n L) (hr : fn.results = #[.cell p 30]) (hp : lk L p = some (.pointer (some ⟨b, 0, none⟩))) (hc : CellsAt w b 30 #[v0, v1]) (h : R (.returned (.agg #[v0, v1])) w) : bodyPost Try.prog fn R .ret a w :=
 bodyPost_ret (results_cell_row (P := Try.prog) hr _ _ _ _ _ _ _ (hT.getD hp) hc Try.underlying30 rfl (by kernel_rfl)) hT.dfr h
theorem ret_tu (hT : Tm a n L) (hr : fn.results = #[.cell p 30, .cell q 109]) (hp : lk L p = some (.pointer (some ⟨b, 0, none⟩))) (hq : lk L q = some (.pointer (some ⟨d, 0, none⟩))) (hc : CellsAt w b 30 #[v0, v1]) (hc2 : CellsAt w d 109 #[u0, u1, u2, u3])
  (h : R (.returned (.tuple #[.agg #[v0, v1], .agg #[u0, u1, u2, u3]])) w) : bodyPost Try.prog fn R .ret a w :=
 bodyPost_ret (results_cc (P := Try.prog) hr _ _ _ _ _ _ _ _ _ _ _ _ (hT.getD hp) hc Try.underlying30 rfl (by kernel_rfl) (hT.getD hq) hc2 Try.underlying109 rfl (by kernel_rfl)) hT.dfr h
theorem ret_ti (hT : Tm a n L) (hr : fn.results = #[.cell p 30, .tmp q]) (hp : lk L p = some (.pointer (some ⟨b, 0, none⟩))) (hq : lk L q = some u0) (hc : CellsAt w b 30 #[v0, v1])
  (h : R (.returned (.tuple #[.agg #[v0, v1], u0])) w) : bodyPost Try.prog fn R .ret a w :=
 bodyPost_ret (by have := results_ct (P := Try.prog) hr a.tmps w _ _ _ _ _ (hT.getD hp) hc Try.underlying30 rfl (by kernel_rfl); rw [hT.getD hq] at this; exact this) hT.dfr h
end
section
variable {w0 w : World} {B g : Nat} {Lb : List BD} {Rs : List RD} {S : List Sk} {o : Oper} {L : List (Nat × Value)}
theorem e_tree (E : Env w0 B g Lb Rs S w) (ho : o.op = .alloc 30) : WY Try.prog o L w fun v W => ∃ b, v = .pointer (some ⟨b, 0, none⟩) ∧ Env w0 B g ((b, 30, [.int .i64 0, .slice none 0 0]) :: Lb) Rs S W ∧ Below w.heap.size w W :=
 (w_alloc ho (a_tree w)).mono fun _ _ ⟨h1, h2⟩ => by subst h1 h2; exact ⟨_, rfl, E.alloc 30 [.int .i64 0, .slice none 0 0] (by decide) (by decide), (Below.refl _ w).alloc (Nat.le_refl _) _⟩
theorem e_node (E : Env w0 B g Lb Rs S w) (ho : o.op = .alloc 72) : WY Try.prog o L w fun v W => ∃ b, v = .pointer (some ⟨b, 0, none⟩) ∧ Env w0 B g ((b, 72, [.bool false, .slice none 0 0, .slice none 0 0, .slice none 0 0]) :: Lb) Rs S W ∧ Below w.heap.size w W :=
 (w_alloc ho (a_node w)).mono fun _ _ ⟨h1, h2⟩ => by subst h1 h2; exact ⟨_, rfl, E.alloc 72 [.bool false, .slice none 0 0, .slice none 0 0, .slice none 0 0] (by decide) (by decide), (Below.refl _ w).alloc (Nat.le_refl _) _⟩
theorem e_up (E : Env w0 B g Lb Rs S w) (ho : o.op = .alloc 109) : WY Try.prog o L w fun v W => ∃ b, v = .pointer (some ⟨b, 0, none⟩) ∧ Env w0 B g ((b, 109, [.bool false, .string ⟨#[]⟩, .int .i64 0, .bool false]) :: Lb) Rs S W ∧ Below w.heap.size w W :=
 (w_alloc ho (a_up w)).mono fun _ _ ⟨h1, h2⟩ => by subst h1 h2; exact ⟨_, rfl, E.alloc 109 [.bool false, .string ⟨#[]⟩, .int .i64 0, .bool false] (by decide) (by decide), (Below.refl _ w).alloc (Nat.le_refl _) _⟩
theorem e_box (E : Env w0 B g Lb Rs S w) {x : Operand} {v0 v1 : Value} (ho : o.op = .box 30 x) (hx : ev L x = some (.agg #[v0, v1])) : WY Try.prog o L w fun v W => ∃ b, v = .pointer (some ⟨b, 0, none⟩) ∧ Env w0 B g ((b, 30, [v0, v1]) :: Lb) Rs S W ∧ Below w.heap.size w W :=
 (w_box ho hx (b_tree w v0 v1)).mono fun _ _ ⟨h1, h2⟩ => by subst h1 h2; exact ⟨_, rfl, E.alloc 30 [v0, v1] (by decide) (by decide), (Below.refl _ w).alloc (Nat.le_refl _) _⟩
theorem e_st2 (k : Nat) (E : Env w0 B g Lb Rs S w) {x y : Operand} {b : Nat} {v0 v1 x0 x1 : Value} (ho : o.op = .store 30 x y) (hx : ev L x = some (.pointer (some ⟨b, 0, none⟩))) (hy : ev L y = some (.agg #[v0, v1])) (hk : Lb[k]? = some (b, 30, [x0, x1])) (h0 : v0.oneCell' = true) (h1 : v1.oneCell' = true) :
  WY Try.prog o L w fun _ W => Env w0 B g (Lb.set k (b, 30, [v0, v1])) Rs S W :=
 (w_store ho hx hy (s_tree (E.bx _ (nth_mem hk)) (by simp) h0 h1)).mono fun _ _ h => by subst h; exact E.set2 hk v0 v1
theorem e_st4 (k : Nat) (E : Env w0 B g Lb Rs S w) {x y : Operand} {b : Nat} {v0 v1 v2 v3 x0 x1 x2 x3 : Value} (ho : o.op = .store 72 x y) (hx : ev L x = some (.pointer (some ⟨b, 0, none⟩))) (hy : ev L y = some (.agg #[v0, v1, v2, v3])) (hk : Lb[k]? = some (b, 72, [x0, x1, x2, x3])) (h0 : v0.oneCell' = true) (h1 : v1.oneCell' = true) (h2 : v2.oneCell' = true) (h3 : v3.oneCell' = true) :
  WY Try.prog o L w fun _ W => Env w0 B g (Lb.set k (b, 72, [v0, v1, v2, v3])) Rs S W :=
 (w_store ho hx hy (s_node (E.bx _ (nth_mem hk)) (by simp) h0 h1 h2 h3)).mono fun _ _ h => by subst h; exact E.set4 hk v0 v1 v2 v3
theorem e_stU (k : Nat) (E : Env w0 B g Lb Rs S w) {x y : Operand} {b : Nat} {v0 v1 v2 v3 x0 x1 x2 x3 : Value} (ho : o.op = .store 109 x y) (hx : ev L x = some (.pointer (some ⟨b, 0, none⟩))) (hy : ev L y = some (.agg #[v0, v1, v2, v3])) (hk : Lb[k]? = some (b, 109, [x0, x1, x2, x3])) (h0 : v0.oneCell' = true) (h1 : v1.oneCell' = true) (h2 : v2.oneCell' = true) (h3 : v3.oneCell' = true) :
  WY Try.prog o L w fun _ W => Env w0 B g (Lb.set k (b, 109, [v0, v1, v2, v3])) Rs S W :=
 (w_store ho hx hy (s_up (E.bx _ (nth_mem hk)) (by simp) h0 h1 h2 h3)).mono fun _ _ h => by subst h; exact E.set4 hk v0 v1 v2 v3
theorem e_st1 (k : Nat) (E : Env w0 B g Lb Rs S w) {x y : Operand} {b j t : Nat} {v : Value} {cs : List Value} (ho : o.op = .store 3 x y) (hx : ev L x = some (.pointer (some ⟨b, j, none⟩))) (hy : ev L y = some v) (hk : Lb[k]? = some (b, t, cs)) (hj : Nat.blt j cs.length = true) (h0 : v.oneCell' = true) :
  WY Try.prog o L w fun _ W => Env w0 B g (Lb.set k (b, t, cs.set j v)) Rs S W :=
 (w_store ho hx hy ((s_int h0).trans (run_store_at (E.bx _ (nth_mem hk)) (by simpa [Nat.blt_eq] using hj) h0))).mono fun _ _ h => by subst h; exact E.set1 hk v
theorem e_stN (E : Env w0 B g Lb Rs S w) {x y : Operand} {i : Nat} {s : Sk} {v : Value} (ho : o.op = .store 72 x y) (hx : ev L x = some (.pointer (some ⟨g, i * 4, none⟩))) (hy : ev L y = some v) (hv : NodeV w B v s) (hi : i < S.length) :
  WY Try.prog o L w fun _ W => Env w0 B g Lb Rs (S.set i s) W := by
 obtain ⟨vK, vV, vI, rfl, rK, rV, rI⟩ := hv
 obtain ⟨N, hN, hS⟩ := E.ts
 obtain ⟨A, c, rfl⟩ := RD.sform rK
 obtain ⟨A', c', rfl⟩ := RD.sform rV
 obtain ⟨A'', c'', rfl⟩ := RD.iform rI
 have hlen : S.length = N.length := by rw [← hS, List.length_map]
 obtain ⟨cur, h1, h2, _⟩ := hN
 exact (w_store ho hx hy (s_node h1 (by omega) rfl rfl rfl rfl)).mono fun _ _ h => by subst h; exact E.setN hi rK rV rI
theorem e_stS (E : Env w0 B g Lb Rs S w) {x y : Operand} {b m c n j : Nat} {s : ByteArray} (ho : o.op = .store 9 x y) (hx : ev L x = some (.pointer (some ⟨b, j, none⟩))) (hy : ev L y = some (.string s)) (hr : (RD.s (.slice (some ⟨b, 0, none⟩) m c) n).ok w B) (hj : j < n) :
  WY Try.prog o L w fun _ W => Env w0 B g Lb Rs S W := by
 obtain ⟨cs, h1, h2⟩ := RD.scells hr
 exact (w_store ho hx hy ((s_str rfl).trans (run_store_at h1 (by omega) rfl))).mono fun _ _ h => by subst h; exact E.str hr s
end
end Go.Proofs.Ytcolgghllacloaa.Tm
end

section
namespace Go.Proofs.Ytcolgghllacloaa.Tm
open Go.Rf (RowIn strs ints rep nodeT ownL blk Src IsLow IsUp)
open Go.RowKit Go.Proofs.Ytcolgghllacloaa.Q Go.Proofs.YtcolgghllacloaaW.PrintWords Go.Proofs.YtcolgghllacloaaW.PrintLast Go.Proofs.YtcolgghllacloaaW.PrintMore
def LendLR (lf : Bool) (aK jK : Nat) (aI jI : List Int) (nj na : Sk) : Prop :=
 (lf = true ∧ nj = (true, jK + 1, jK + 1, []) ∧ na = (true, aK - 1, aK - 1, [])) ∨
 (lf = false ∧ ∃ q, aI[aK]? = some q ∧ nj = (false, jK + 1, 0, q :: jI) ∧ na = (false, aK - 1, 0, aI.take aK))
def LendPost (w : World) (B g c : Nat) (root : Int) (S : List Sk) (a j : Nat) (R : Sk → Sk → Prop) : Value → World → Prop := fun v w' =>
 v = tv root g S.length c ∧ ∃ nj na, TS w' B g ((S.set j nj).set a na) ∧ Fr B g w w' ∧ R nj na
set_option maxRecDepth 100000 in
set_option maxHeartbeats 4000000 in
theorem lendL_any (w : World) (B g c : Nat) (root : Int) (S : List Sk) (at' k a j K V aK jK aV jV : Nat) (lf : Bool) (kids aI jI : List Int) (hB : B ≤ w.heap.size) (hS0 : TS w B g S) (hl : S.length = 19) (hc : S.length ≤ c) (hat : S[at']? = some (false, K, V, kids)) (hK : kids.length = K + 1) (hK4 : K ≤ 4)
  (hka : kids[k]? = some (a : Int)) (hkj : kids[k + 1]? = some (j : Int)) (hoa : S[a]? = some (lf, aK, aV, aI)) (hoj : S[j]? = some (lf, jK, jV, jI)) (h2 : 2 < aK) (h4a : aK ≤ 4) (h4j : jK ≤ 4) (haj : a ≠ j) (haat : at' ≠ a) (hjat : at' ≠ j)
  (hlf : lf = true → aV = aK ∧ jV = jK) (hin : lf = false → aI.length = aK + 1 ∧ jI.length = jK + 1) :
  Calls Try.prog 98 #[tv root g S.length c, .int .i64 (at' : Int), .int .i64 ((k + 1 : Nat) : Int)] w (Ans (LendPost w B g c root S a j (LendLR lf aK jK aI jI))) := by
 have hlt := (List.getElem?_eq_some_iff.1 hat).1
 have hla := (List.getElem?_eq_some_iff.1 hoa).1
 have hlj := (List.getElem?_eq_some_iff.1 hoj).1
 have hk1 := (List.getElem?_eq_some_iff.1 hkj).1
 have E := Env.start hB hS0
 obtain ⟨K', rfl⟩ : ∃ K', K = K' + 1 := ⟨K - 1, by omega⟩
 obtain ⟨n, rfl⟩ : ∃ n, aK = n + 1 := ⟨aK - 1, by omega⟩
 refine enter (args := [tv root g S.length c, .int .i64 (at' : Int), .int .i64 ((k + 1 : Nat) : Int)]) Try.func98 rfl Try.ntmps98 rfl ?_
 intro x hT
 refine wp_seq ?_
 refine wp_region_lit ?_
 refine L_w hT rfl rfl rfl (e_box E rfl rfl) ?_
 rintro _ w ⟨b3, rfl, E, m⟩ x hT
 refine L_w hT rfl rfl rfl (e_tree E rfl) ?_
 rintro _ w ⟨b6, rfl, E, m⟩ x hT
 refine wpList_nil ?_
 show Code.wp _ _ _ _ _
 refine wp_seq ?_
 obtain ⟨uA, uc, uA2, uc2, uA3, uc3, q0, q1, q2, q3, E⟩ := E.readf hat
 refine wp_region_lit ?_
 refine lq hT (q_field rfl rfl fT rfl) fun x hT => ?_
 refine lq hT (q_load rfl rfl (l_sn (by exact E.cell (k := 1) rfl rfl))) fun x hT => ?_
 refine lq hT (q_move rfl rfl) fun x hT => ?_
 refine lq hT (q_index rfl rfl rfl (i_node (by omega))) fun x hT => ?_
 refine lq hT (q_load rfl rfl (l_node q0 q1 q2 q3)) fun x hT => ?_
 refine L_w hT rfl rfl rfl (e_node E rfl) ?_
 rintro _ w ⟨b7, rfl, E, m⟩ x hT
 refine L_s hT rfl rfl (e_st4 0 E rfl rfl rfl rfl rfl rfl rfl rfl) ?_
 rintro _ w E
 refine wpList_nil ?_
 clear q0 q1 q2 q3
 show Code.wp _ _ _ _ _
 refine wp_seq ?_
 obtain ⟨kb, rfl, hkc⟩ := RD.iblk (E.row (k := 2) rfl) (by omega)
 obtain ⟨sb, rfl, hsc⟩ := RD.sblk (E.row (k := 0) rfl) (by omega)
 have i1 := RD.iat ((E.below (below_drew w)).row (k := 2) rfl) hka
 obtain ⟨aA, ac, aA2, ac2, aA3, ac3, q0, q1, q2, q3, E⟩ := E.readf hoa
 have q0 := ck q0 _ (below_drew w)
 have q1 := ck q1 _ (below_drew w)
 have q2 := ck q2 _ (below_drew w)
 have q3 := ck q3 _ (below_drew w)
 refine wp_region_M (n := 12) (Below w.drew.heap.size w.drew) [0, 1, 2, 3, 4, 5, 6, 7, 8, 9, 10] [] (by kernel_rfl) rfl ?_
 have hS := Below.refl w.drew.heap.size w.drew
 have E0 := E.below (below_drew w)
 have E := E0
 refine mq 0 [1, 8, 9, 11] hT hS rfl (fun w' hw => q_field rfl rfl fT rfl) fun x hT => ?_
 refine mq 1 [8, 9, 11] hT hS rfl (fun w' hw => q_load rfl rfl (l_sn (ck (by exact E0.cell (k := 2) rfl rfl) w' hw))) fun x hT => ?_
 refine mq 2 [3, 6, 7, 8, 9, 11] hT hS rfl (fun w' hw => q_field rfl rfl fN rfl) fun x hT => ?_
 refine mq 3 [6, 7, 8, 9, 11] hT hS rfl (fun w' hw => q_load rfl rfl (l_si (ck (by exact E0.cell (k := 0) rfl rfl) w' hw))) fun x hT => ?_
 refine mq 4 [5, 6, 7, 8, 9, 11] hT hS rfl (fun w' hw => q_move rfl rfl) fun x hT => ?_
 refine mq 5 [6, 7, 8, 9, 11] hT hS rfl (fun w' hw => q_bin rfl rfl rfl (n_sub (by omega))) fun x hT => ?_
 refine mq 6 [7, 8, 9, 11] hT hS rfl (fun w' hw => q_index rfl rfl rfl (i_int (by omega))) fun x hT => ?_
 refine mq 7 [8, 9, 11] hT hS rfl (fun w' hw => q_load rfl rfl (l_int (ck i1 w' hw))) fun x hT => ?_
 refine mq 8 [9, 11] hT hS rfl (fun w' hw => q_index rfl rfl rfl (i_node (by omega))) fun x hT => ?_
 refine mq 9 [11] hT hS rfl (fun w' hw => q_load rfl rfl (l_node (ck q0 w' hw) (ck q1 w' hw) (ck q2 w' hw) (ck q3 w' hw))) fun x hT => ?_
 refine M_one 10 (by kernel_rfl) ?_
 refine at_w hT rfl rfl rfl rfl (e_node E rfl) ?_
 rintro _ w ⟨b8, rfl, E, m⟩ x hT
 have hS := hS.trans (m.mono hS.size)
 refine ⟨fun _ _ => hS, ?_⟩
 refine M_one 11 (by kernel_rfl) ?_
 refine at_s hT rfl rfl rfl (e_st4 0 E rfl rfl rfl rfl rfl rfl rfl rfl) ?_
 rintro _ w E
 refine ⟨fun h => absurd h (by decide), ?_⟩
 refine M_end (by kernel_rfl) ?_
 clear q0 q1 q2 q3 i1
 show Code.wp _ _ _ _ _
 refine wp_seq ?_
 have i1 := RD.iat ((E.below (below_drew w)).row (k := 5) rfl) hkj
 obtain ⟨jA, jc, jA2, jc2, jA3, jc3, q0, q1, q2, q3, E⟩ := E.readf hoj
 have q0 := ck q0 _ (below_drew w)
 have q1 := ck q1 _ (below_drew w)
 have q2 := ck q2 _ (below_drew w)
 have q3 := ck q3 _ (below_drew w)
 refine wp_region_M (n := 11) (Below w.drew.heap.size w.drew) [0, 1, 2, 3, 4, 5, 6, 7, 8, 9] [] (by kernel_rfl) rfl ?_
 have hS := Below.refl w.drew.heap.size w.drew
 have E0 := E.below (below_drew w)
 have E := E0
 refine mq 0 [1, 7, 8, 10] hT hS rfl (fun w' hw => q_field rfl rfl fT rfl) fun x hT => ?_
 refine mq 1 [7, 8, 10] hT hS rfl (fun w' hw => q_load rfl rfl (l_sn (ck (by exact E0.cell (k := 3) rfl rfl) w' hw))) fun x hT => ?_
 refine mq 2 [3, 5, 6, 7, 8, 10] hT hS rfl (fun w' hw => q_field rfl rfl fN rfl) fun x hT => ?_
 refine mq 3 [5, 6, 7, 8, 10] hT hS rfl (fun w' hw => q_load rfl rfl (l_si (ck (by exact E0.cell (k := 1) rfl rfl) w' hw))) fun x hT => ?_
 refine mq 4 [5, 6, 7, 8, 10] hT hS rfl (fun w' hw => q_move rfl rfl) fun x hT => ?_
 refine mq 5 [6, 7, 8, 10] hT hS rfl (fun w' hw => q_index rfl rfl rfl (i_int (by omega))) fun x hT => ?_
 refine mq 6 [7, 8, 10] hT hS rfl (fun w' hw => q_load rfl rfl (l_int (ck i1 w' hw))) fun x hT => ?_
 refine mq 7 [8, 10] hT hS rfl (fun w' hw => q_index rfl rfl rfl (i_node (by omega))) fun x hT => ?_
 refine mq 8 [10] hT hS rfl (fun w' hw => q_load rfl rfl (l_node (ck q0 w' hw) (ck q1 w' hw) (ck q2 w' hw) (ck q3 w' hw))) fun x hT => ?_
 refine M_one 9 (by kernel_rfl) ?_
 refine at_w hT rfl rfl rfl rfl (e_node E rfl) ?_
 rintro _ w ⟨b9, rfl, E, m⟩ x hT
 have hS := hS.trans (m.mono hS.size)
 refine ⟨fun _ _ => hS, ?_⟩
 refine M_one 10 (by kernel_rfl) ?_
 refine at_s hT rfl rfl rfl (e_st4 0 E rfl rfl rfl rfl rfl rfl rfl rfl) ?_
 rintro _ w E
 refine ⟨fun h => absurd h (by decide), ?_⟩
 refine M_end (by kernel_rfl) ?_
 clear q0 q1 q2 q3 i1
 obtain ⟨ab, rfl, hac⟩ := RD.sblk (E.row (k := 3) rfl) (by omega)
 show Code.wp _ _ _ _ _
 refine wp_seq ?_
 refine wp_region_lit ?_
 refine lq hT (q_field rfl rfl fN rfl) fun x hT => ?_
 refine lq hT (q_load rfl rfl (l_ss (by exact E.cell (k := 1) rfl rfl))) fun x hT => ?_
 refine lq hT (q_len rfl Try.underlying62 rfl) fun x hT => ?_
 refine lq hT (q_bin rfl rfl rfl (n_sub (by omega))) fun x hT => ?_
 refine lq hT (q_assign rfl rfl) fun x hT => ?_
 refine wpList_nil ?_
 show Code.wp _ _ _ _ _
 refine wp_seq ?_
 refine wp_seq ?_
 refine wp_region_lit ?_
 refine lq hT (q_field rfl rfl fN rfl) fun x hT => ?_
 refine lq hT (q_load rfl rfl (l_bool (by exact E.cell (k := 0) rfl rfl))) fun x hT => ?_
 refine wpList_nil ?_
 show Code.wp _ _ _ _ _
 cases lf with
 | true =>
  obtain ⟨rfl, rfl⟩ := hlf rfl
  refine wp_cond_true (hT.ev rfl) ?_
  refine wp_seq ?_
  obtain ⟨vb, rfl, hvc⟩ := RD.sblk (E.row (k := 4) rfl) (by omega)
  have i1 := RD.iat ((E.below (below_drew w)).row (k := 8) rfl) hkj
  obtain ⟨s1, hs1⟩ := RD.sat ((E.below (below_drew w)).row (k := 3) rfl) (j := n) (by omega)
  obtain ⟨s2, hs2⟩ := RD.sat ((E.below (below_drew w)).row (k := 4) rfl) (j := n) (by omega)
  refine wp_region_M (n := 26) (Below w.drew.heap.size w.drew) [0, 1, 2, 3, 4, 5, 6, 7, 8, 9, 10, 11, 12, 13, 14, 15, 16, 17, 18, 19, 20, 21, 22, 23, 24] [] (by kernel_rfl) rfl ?_
  have hS := Below.refl w.drew.heap.size w.drew
  have E0 := E.below (below_drew w)
  have E := E0
  refine mq 0 [1, 24, 25] hT hS rfl (fun w' hw => q_field rfl rfl fT rfl) fun x hT => ?_
  refine mq 1 [24, 25] hT hS rfl (fun w' hw => q_load rfl rfl (l_sn (ck (by exact E0.cell (k := 4) rfl rfl) w' hw))) fun x hT => ?_
  refine mq 2 [3, 5, 6, 24, 25] hT hS rfl (fun w' hw => q_field rfl rfl fN rfl) fun x hT => ?_
  refine mq 3 [5, 6, 24, 25] hT hS rfl (fun w' hw => q_load rfl rfl (l_si (ck (by exact E0.cell (k := 2) rfl rfl) w' hw))) fun x hT => ?_
  refine mq 4 [5, 6, 24, 25] hT hS rfl (fun w' hw => q_move rfl rfl) fun x hT => ?_
  refine mq 5 [6, 24, 25] hT hS rfl (fun w' hw => q_index rfl rfl rfl (i_int (by omega))) fun x hT => ?_
  refine mq 6 [24, 25] hT hS rfl (fun w' hw => q_load rfl rfl (l_int (ck i1 w' hw))) fun x hT => ?_
  refine mq 7 [8, 14, 22, 23, 24, 25] hT hS rfl (fun w' hw => q_field rfl rfl fN rfl) fun x hT => ?_
  refine mq 8 [14, 22, 23, 24, 25] hT hS rfl (fun w' hw => q_load rfl rfl (l_ss (ck (by exact E0.cell (k := 0) rfl rfl) w' hw))) fun x hT => ?_
  refine mq 9 [10, 12, 13, 14, 22, 23, 24, 25] hT hS rfl (fun w' hw => q_field rfl rfl fN rfl) fun x hT => ?_
  refine mq 10 [12, 13, 14, 22, 23, 24, 25] hT hS rfl (fun w' hw => q_load rfl rfl (l_ss (ck (by exact E0.cell (k := 1) rfl rfl) w' hw))) fun x hT => ?_
  refine mq 11 [12, 13, 14, 22, 23, 24, 25] hT hS rfl (fun w' hw => q_move rfl rfl) fun x hT => ?_
  refine mq 12 [13, 14, 22, 23, 24, 25] hT hS rfl (fun w' hw => q_index rfl rfl rfl (i_str (by omega))) fun x hT => ?_
  refine mq 13 [14, 22, 23, 24, 25] hT hS rfl (fun w' hw => q_load rfl rfl (l_str (ck hs1 w' hw))) fun x hT => ?_
  refine mq 15 [16, 22, 23, 24, 25] hT hS rfl (fun w' hw => q_field rfl rfl fN rfl) fun x hT => ?_
  refine mq 16 [22, 23, 24, 25] hT hS rfl (fun w' hw => q_load rfl rfl (l_ss (ck (by exact E0.cell (k := 0) rfl rfl) w' hw))) fun x hT => ?_
  refine mq 17 [18, 20, 21, 22, 23, 24, 25] hT hS rfl (fun w' hw => q_field rfl rfl fN rfl) fun x hT => ?_
  refine mq 18 [20, 21, 22, 23, 24, 25] hT hS rfl (fun w' hw => q_load rfl rfl (l_ss (ck (by exact E0.cell (k := 1) rfl rfl) w' hw))) fun x hT => ?_
  refine mq 19 [20, 21, 22, 23, 24, 25] hT hS rfl (fun w' hw => q_move rfl rfl) fun x hT => ?_
  refine mq 20 [21, 22, 23, 24, 25] hT hS rfl (fun w' hw => q_index rfl rfl rfl (i_str (by omega))) fun x hT => ?_
  refine mq 21 [22, 23, 24, 25] hT hS rfl (fun w' hw => q_load rfl rfl (l_str (ck hs2 w' hw))) fun x hT => ?_
  refine M_one 14 (by kernel_rfl) ?_
  refine at_w hT rfl rfl rfl rfl (w_callN rfl rfl (by kernel_rfl) (args := [_, _, _]) rfl (c_in E.hBw (RD.ss (E.row (k := 0) rfl)) (by omega) (Nat.zero_le _))) ?_
  rintro _ w ⟨r1, m⟩ x hT
  have hS := hS.trans (m.mono hS.size)
  have E := E.below m
  refine ⟨fun _ _ => hS, ?_⟩
  refine M_one 22 (by kernel_rfl) ?_
  refine at_w hT rfl rfl rfl rfl (w_callN rfl rfl (by kernel_rfl) (args := [_, _, _]) rfl (c_in E.hBw (RD.ss (E.row (k := 1) rfl)) (by omega) (Nat.zero_le _))) ?_
  rintro _ w ⟨r2, m⟩ x hT
  have hS := hS.trans (m.mono hS.size)
  have E := E.below m
  have r1 := RD.below (r := .s _ _) r1 m
  refine ⟨fun _ _ => hS, ?_⟩
  refine M_one 23 (by kernel_rfl) ?_
  refine at_w hT rfl rfl rfl rfl (w_callN rfl rfl (by kernel_rfl) (args := [_, _]) rfl (c_leafOf E.hBw (RD.ss r1) (RD.ss r2) (by omega) (by omega))) ?_
  rintro _ w ⟨r3, m⟩ x hT
  have hS := hS.trans (m.mono hS.size)
  have E := E.below m
  refine ⟨fun _ _ => hS, ?_⟩
  refine mq 24 [25] hT hS rfl (fun w' hw => q_index rfl rfl rfl (i_node (by omega))) fun x hT => ?_
  refine M_one 25 (by kernel_rfl) ?_
  refine at_s hT rfl rfl rfl (e_stN E rfl rfl rfl r3 hlj) ?_
  rintro _ w E
  refine ⟨fun h => absurd h (by decide), ?_⟩
  refine M_end (by kernel_rfl) ?_
  clear i1 hs1 hs2 r1 r2 r3
  show Code.wp _ _ _ _ _
  have i1 := RD.iat ((E.below (below_drew w)).row (k := 8) rfl) hka
  refine wp_region_M (n := 19) (Below w.drew.heap.size w.drew) [0, 1, 2, 3, 4, 5, 6, 7, 8, 9, 10, 11, 12, 13, 14, 15, 16, 17] [] (by kernel_rfl) rfl ?_
  have hS := Below.refl w.drew.heap.size w.drew
  have E0 := E.below (below_drew w)
  have E := E0
  refine mq 0 [1, 17, 18] hT hS rfl (fun w' hw => q_field rfl rfl fT rfl) fun x hT => ?_
  refine mq 1 [17, 18] hT hS rfl (fun w' hw => q_load rfl rfl (l_sn (ck (by exact E0.cell (k := 4) rfl rfl) w' hw))) fun x hT => ?_
  refine mq 2 [3, 6, 7, 17, 18] hT hS rfl (fun w' hw => q_field rfl rfl fN rfl) fun x hT => ?_
  refine mq 3 [6, 7, 17, 18] hT hS rfl (fun w' hw => q_load rfl rfl (l_si (ck (by exact E0.cell (k := 2) rfl rfl) w' hw))) fun x hT => ?_
  refine mq 4 [5, 6, 7, 17, 18] hT hS rfl (fun w' hw => q_move rfl rfl) fun x hT => ?_
  refine mq 5 [6, 7, 17, 18] hT hS rfl (fun w' hw => q_bin rfl rfl rfl (n_sub (by omega))) fun x hT => ?_
  refine mq 6 [7, 17, 18] hT hS rfl (fun w' hw => q_index rfl rfl rfl (i_int (by omega))) fun x hT => ?_
  refine mq 7 [17, 18] hT hS rfl (fun w' hw => q_load rfl rfl (l_int (ck i1 w' hw))) fun x hT => ?_
  refine mq 8 [9, 11, 16, 17, 18] hT hS rfl (fun w' hw => q_field rfl rfl fN rfl) fun x hT => ?_
  refine mq 9 [11, 16, 17, 18] hT hS rfl (fun w' hw => q_load rfl rfl (l_ss (ck (by exact E0.cell (k := 1) rfl rfl) w' hw))) fun x hT => ?_
  refine mq 10 [11, 16, 17, 18] hT hS rfl (fun w' hw => q_move rfl rfl) fun x hT => ?_
  refine mq 11 [16, 17, 18] hT hS rfl (fun w' hw => q_slice rfl rfl (LO := none) (HI := some _) rfl rfl (sl_s_hi (by omega))) fun x hT => ?_
  refine mq 12 [13, 15, 16, 17, 18] hT hS rfl (fun w' hw => q_field rfl rfl fN rfl) fun x hT => ?_
  refine mq 13 [15, 16, 17, 18] hT hS rfl (fun w' hw => q_load rfl rfl (l_ss (ck (by exact E0.cell (k := 1) rfl rfl) w' hw))) fun x hT => ?_
  refine mq 14 [15, 16, 17, 18] hT hS rfl (fun w' hw => q_move rfl rfl) fun x hT => ?_
  refine mq 15 [16, 17, 18] hT hS rfl (fun w' hw => q_slice rfl rfl (LO := none) (HI := some _) rfl rfl (sl_s_hi (by omega))) fun x hT => ?_
  refine M_one 16 (by kernel_rfl) ?_
  refine at_w hT rfl rfl rfl rfl (w_callN rfl rfl (by kernel_rfl) (args := [_, _]) rfl (c_leafOf E.hBw ((RD.ss (E.row (k := 3) rfl)).take (by omega)) ((RD.ss (E.row (k := 4) rfl)).take (by omega)) (by omega) (by omega))) ?_
  rintro _ w ⟨r3, m⟩ x hT
  have hS := hS.trans (m.mono hS.size)
  have E := E.below m
  refine ⟨fun _ _ => hS, ?_⟩
  refine mq 17 [18] hT hS rfl (fun w' hw => q_index rfl rfl rfl (i_node (by omega))) fun x hT => ?_
  refine M_one 18 (by kernel_rfl) ?_
  refine at_s hT rfl rfl rfl (e_stN E rfl rfl rfl r3 (by rw [List.length_set]; exact hla)) ?_
  rintro _ w E
  refine ⟨fun h => absurd h (by decide), ?_⟩
  refine M_end (by kernel_rfl) ?_
  clear i1 r3
  show Code.wp _ _ _ _ _
  refine wp_seq ?_
  obtain ⟨tA, tc, tA2, tc2, tA3, tc3, p0, p1, p2, p3, E⟩ := E.readf (i := at') (lf := false) (nK := K' + 1) (nV := V) (I := kids) (by rw [List.getElem?_set_ne (Ne.symm haat), List.getElem?_set_ne (Ne.symm hjat)]; exact hat)
  obtain ⟨tb, rfl, htc⟩ := RD.sblk (E.row (k := 0) rfl) (by omega)
  have p1 := ck p1 _ (below_drew w)
  obtain ⟨s3, hs3⟩ := RD.sat ((E.below (below_drew w)).row (k := 6) rfl) (j := n) (by omega)
  refine wp_region_M (n := 15) (Below w.drew.heap.size w.drew) [0, 1, 2, 3, 4, 5, 6, 7, 8, 9, 10, 11, 12, 13] [] (by kernel_rfl) rfl ?_
  have hS := Below.refl w.drew.heap.size w.drew
  have E0 := E.below (below_drew w)
  have E := E0
  refine mq 0 [1, 3, 4, 5, 13, 14] hT hS rfl (fun w' hw => q_field rfl rfl fT rfl) fun x hT => ?_
  refine mq 1 [3, 4, 5, 13, 14] hT hS rfl (fun w' hw => q_load rfl rfl (l_sn (ck (by exact E0.cell (k := 4) rfl rfl) w' hw))) fun x hT => ?_
  refine mq 2 [3, 4, 5, 13, 14] hT hS rfl (fun w' hw => q_move rfl rfl) fun x hT => ?_
  refine mq 3 [4, 5, 13, 14] hT hS rfl (fun w' hw => q_index rfl rfl rfl (i_node (by omega))) fun x hT => ?_
  refine mq 4 [5, 13, 14] hT hS rfl (fun w' hw => q_field rfl rfl fN rfl) fun x hT => ?_
  refine mq 5 [13, 14] hT hS rfl (fun w' hw => q_load rfl rfl (l_ss (ck p1 w' hw))) fun x hT => ?_
  refine mq 6 [7, 13, 14] hT hS rfl (fun w' hw => q_move rfl rfl) fun x hT => ?_
  refine mq 7 [13, 14] hT hS rfl (fun w' hw => q_bin rfl rfl rfl (n_sub (by omega))) fun x hT => ?_
  refine mq 8 [9, 11, 12, 13, 14] hT hS rfl (fun w' hw => q_field rfl rfl fN rfl) fun x hT => ?_
  refine mq 9 [11, 12, 13, 14] hT hS rfl (fun w' hw => q_load rfl rfl (l_ss (ck (by exact E0.cell (k := 1) rfl rfl) w' hw))) fun x hT => ?_
  refine mq 10 [11, 12, 13, 14] hT hS rfl (fun w' hw => q_move rfl rfl) fun x hT => ?_
  refine mq 11 [12, 13, 14] hT hS rfl (fun w' hw => q_index rfl rfl rfl (i_str (by omega))) fun x hT => ?_
  refine mq 12 [13, 14] hT hS rfl (fun w' hw => q_load rfl rfl (l_str (ck hs3 w' hw))) fun x hT => ?_
  refine mq 13 [14] hT hS rfl (fun w' hw => q_index rfl rfl rfl (i_str (by omega))) fun x hT => ?_
  refine M_one 14 (by kernel_rfl) ?_
  refine at_s hT rfl rfl rfl (e_stS E rfl rfl rfl (E.row (k := 0) rfl) (by omega)) ?_
  rintro _ w E
  refine ⟨fun h => absurd h (by decide), ?_⟩
  refine M_end (by kernel_rfl) ?_
  show Code.wp _ _ _ _ _
  refine wp_seq ?_
  refine wp_region_lit ?_
  refine lq hT (q_load rfl rfl (l_tree (by exact E.cell (k := 4) rfl rfl) (by exact E.cell (k := 4) rfl rfl))) fun x hT => ?_
  refine L_s hT rfl rfl (e_st2 3 E rfl rfl rfl rfl rfl rfl) ?_
  rintro _ w E
  refine wpList_nil ?_
  show Code.wp _ _ _ _ _
  refine wp_ret ?_
  show bodyPost _ _ _ _ _ _
  refine ret_t hT rfl rfl (E.bx _ (nth_mem (k := 3) rfl)) ?_
  exact ⟨_, rfl, rfl, _, _, E.ts, E.fr, .inl ⟨rfl, rfl, rfl⟩⟩
 | false =>
  obtain ⟨hia, hij⟩ := hin rfl
  refine wp_cond_false (hT.ev rfl) ?_
  refine wp_seq ?_
  obtain ⟨ib, rfl, hic⟩ := RD.iblk (E.row (k := 5) rfl) (by omega)
  have hq : ∃ q, aI[n + 1]? = some q := ⟨_, List.getElem?_eq_getElem (by omega)⟩
  obtain ⟨q, hq⟩ := hq
  have i1 := RD.iat ((E.below (below_drew w)).row (k := 8) rfl) hkj
  obtain ⟨s1, hs1⟩ := RD.sat ((E.below (below_drew w)).row (k := 6) rfl) (j := k) (by omega)
  have i2 := RD.iat ((E.below (below_drew w)).row (k := 5) rfl) hq
  refine wp_region_M (n := 28) (Below w.drew.heap.size w.drew) [0, 1, 2, 3, 4, 5, 6, 7, 8, 9, 10, 11, 12, 13, 14, 15, 16, 17, 18, 19, 20, 21, 22, 23, 24, 25, 26] [] (by kernel_rfl) rfl ?_
  have hS := Below.refl w.drew.heap.size w.drew
  have E0 := E.below (below_drew w)
  have E := E0
  refine mq 0 [1, 26, 27] hT hS rfl (fun w' hw => q_field rfl rfl fT rfl) fun x hT => ?_
  refine mq 1 [26, 27] hT hS rfl (fun w' hw => q_load rfl rfl (l_sn (ck (by exact E0.cell (k := 4) rfl rfl) w' hw))) fun x hT => ?_
  refine mq 2 [3, 5, 6, 26, 27] hT hS rfl (fun w' hw => q_field rfl rfl fN rfl) fun x hT => ?_
  refine mq 3 [5, 6, 26, 27] hT hS rfl (fun w' hw => q_load rfl rfl (l_si (ck (by exact E0.cell (k := 2) rfl rfl) w' hw))) fun x hT => ?_
  refine mq 4 [5, 6, 26, 27] hT hS rfl (fun w' hw => q_move rfl rfl) fun x hT => ?_
  refine mq 5 [6, 26, 27] hT hS rfl (fun w' hw => q_index rfl rfl rfl (i_int (by omega))) fun x hT => ?_
  refine mq 6 [26, 27] hT hS rfl (fun w' hw => q_load rfl rfl (l_int (ck i1 w' hw))) fun x hT => ?_
  refine mq 7 [8, 15, 24, 25, 26, 27] hT hS rfl (fun w' hw => q_field rfl rfl fN rfl) fun x hT => ?_
  refine mq 8 [15, 24, 25, 26, 27] hT hS rfl (fun w' hw => q_load rfl rfl (l_ss (ck (by exact E0.cell (k := 0) rfl rfl) w' hw))) fun x hT => ?_
  refine mq 9 [10, 13, 14, 15, 24, 25, 26, 27] hT hS rfl (fun w' hw => q_field rfl rfl fN rfl) fun x hT => ?_
  refine mq 10 [13, 14, 15, 24, 25, 26, 27] hT hS rfl (fun w' hw => q_load rfl rfl (l_ss (ck (by exact E0.cell (k := 2) rfl rfl) w' hw))) fun x hT => ?_
  refine mq 11 [12, 13, 14, 15, 24, 25, 26, 27] hT hS rfl (fun w' hw => q_move rfl rfl) fun x hT => ?_
  refine mq 12 [13, 14, 15, 24, 25, 26, 27] hT hS rfl (fun w' hw => q_bin rfl rfl rfl (n_sub (by omega))) fun x hT => ?_
  refine mq 13 [14, 15, 24, 25, 26, 27] hT hS rfl (fun w' hw => q_index rfl rfl rfl (i_str (by omega))) fun x hT => ?_
  refine mq 14 [15, 24, 25, 26, 27] hT hS rfl (fun w' hw => q_load rfl rfl (l_str (ck hs1 w' hw))) fun x hT => ?_
  refine mq 16 [17, 24, 25, 26, 27] hT hS rfl (fun w' hw => q_field rfl rfl fN rfl) fun x hT => ?_
  refine mq 17 [24, 25, 26, 27] hT hS rfl (fun w' hw => q_load rfl rfl (l_si (ck (by exact E0.cell (k := 0) rfl rfl) w' hw))) fun x hT => ?_
  refine mq 18 [19, 22, 23, 24, 25, 26, 27] hT hS rfl (fun w' hw => q_field rfl rfl fN rfl) fun x hT => ?_
  refine mq 19 [22, 23, 24, 25, 26, 27] hT hS rfl (fun w' hw => q_load rfl rfl (l_si (ck (by exact E0.cell (k := 1) rfl rfl) w' hw))) fun x hT => ?_
  refine mq 20 [21, 22, 23, 24, 25, 26, 27] hT hS rfl (fun w' hw => q_move rfl rfl) fun x hT => ?_
  refine mq 21 [22, 23, 24, 25, 26, 27] hT hS rfl (fun w' hw => q_bin rfl rfl rfl (n_add (by omega))) fun x hT => ?_
  refine mq 22 [23, 24, 25, 26, 27] hT hS rfl (fun w' hw => q_index rfl rfl rfl (i_int (by omega))) fun x hT => ?_
  refine mq 23 [24, 25, 26, 27] hT hS rfl (fun w' hw => q_load rfl rfl (l_int (ck i2 w' hw))) fun x hT => ?_
  refine M_one 15 (by kernel_rfl) ?_
  refine at_w hT rfl rfl rfl rfl (w_callN rfl rfl (by kernel_rfl) (args := [_, _, _]) rfl (c_in E.hBw (RD.ss (E.row (k := 0) rfl)) (by omega) (Nat.zero_le _))) ?_
  rintro _ w ⟨r1, m⟩ x hT
  have hS := hS.trans (m.mono hS.size)
  have E := E.below m
  refine ⟨fun _ _ => hS, ?_⟩
  refine M_one 24 (by kernel_rfl) ?_
  refine at_w hT rfl rfl rfl rfl (w_callN rfl rfl (by kernel_rfl) (args := [_, _, _]) rfl (c_inNum E.hBw (RD.si (E.row (k := 2) rfl)) (by omega) (Nat.zero_le _))) ?_
  rintro _ w ⟨r2, m⟩ x hT
  have hS := hS.trans (m.mono hS.size)
  have E := E.below m
  have r1 := RD.below (r := .s _ _) r1 m
  refine ⟨fun _ _ => hS, ?_⟩
  refine M_one 25 (by kernel_rfl) ?_
  refine at_w hT rfl rfl rfl rfl (w_callN rfl rfl (by kernel_rfl) (args := [_, _]) rfl (c_innerOf E.hBw (RD.ss r1) (RD.si r2) (by omega) (by simp; omega))) ?_
  rintro _ w ⟨r3, m⟩ x hT
  have hS := hS.trans (m.mono hS.size)
  have E := E.below m
  refine ⟨fun _ _ => hS, ?_⟩
  refine mq 26 [27] hT hS rfl (fun w' hw => q_index rfl rfl rfl (i_node (by omega))) fun x hT => ?_
  refine M_one 27 (by kernel_rfl) ?_
  refine at_s hT rfl rfl rfl (e_stN E rfl rfl rfl r3 hlj) ?_
  rintro _ w E
  refine ⟨fun h => absurd h (by decide), ?_⟩
  refine M_end (by kernel_rfl) ?_
  clear i1 hs1 i2 r1 r2 r3
  show Code.wp _ _ _ _ _
  have i1 := RD.iat ((E.below (below_drew w)).row (k := 8) rfl) hka
  refine wp_region_M (n := 20) (Below w.drew.heap.size w.drew) [0, 1, 2, 3, 4, 5, 6, 7, 8, 9, 10, 11, 12, 13, 14, 15, 16, 17, 18] [] (by kernel_rfl) rfl ?_
  have hS := Below.refl w.drew.heap.size w.drew
  have E0 := E.below (below_drew w)
  have E := E0
  refine mq 0 [1, 18, 19] hT hS rfl (fun w' hw => q_field rfl rfl fT rfl) fun x hT => ?_
  refine mq 1 [18, 19] hT hS rfl (fun w' hw => q_load rfl rfl (l_sn (ck (by exact E0.cell (k := 4) rfl rfl) w' hw))) fun x hT => ?_
  refine mq 2 [3, 6, 7, 18, 19] hT hS rfl (fun w' hw => q_field rfl rfl fN rfl) fun x hT => ?_
  refine mq 3 [6, 7, 18, 19] hT hS rfl (fun w' hw => q_load rfl rfl (l_si (ck (by exact E0.cell (k := 2) rfl rfl) w' hw))) fun x hT => ?_
  refine mq 4 [5, 6, 7, 18, 19] hT hS rfl (fun w' hw => q_move rfl rfl) fun x hT => ?_
  refine mq 5 [6, 7, 18, 19] hT hS rfl (fun w' hw => q_bin rfl rfl rfl (n_sub (by omega))) fun x hT => ?_
  refine mq 6 [7, 18, 19] hT hS rfl (fun w' hw => q_index rfl rfl rfl (i_int (by omega))) fun x hT => ?_
  refine mq 7 [18, 19] hT hS rfl (fun w' hw => q_load rfl rfl (l_int (ck i1 w' hw))) fun x hT => ?_
  refine mq 8 [9, 11, 17, 18, 19] hT hS rfl (fun w' hw => q_field rfl rfl fN rfl) fun x hT => ?_
  refine mq 9 [11, 17, 18, 19] hT hS rfl (fun w' hw => q_load rfl rfl (l_ss (ck (by exact E0.cell (k := 1) rfl rfl) w' hw))) fun x hT => ?_
  refine mq 10 [11, 17, 18, 19] hT hS rfl (fun w' hw => q_move rfl rfl) fun x hT => ?_
  refine mq 11 [17, 18, 19] hT hS rfl (fun w' hw => q_slice rfl rfl (LO := none) (HI := some _) rfl rfl (sl_s_hi (by omega))) fun x hT => ?_
  refine mq 12 [13, 16, 17, 18, 19] hT hS rfl (fun w' hw => q_field rfl rfl fN rfl) fun x hT => ?_
  refine mq 13 [16, 17, 18, 19] hT hS rfl (fun w' hw => q_load rfl rfl (l_si (ck (by exact E0.cell (k := 1) rfl rfl) w' hw))) fun x hT => ?_
  refine mq 14 [15, 16, 17, 18, 19] hT hS rfl (fun w' hw => q_move rfl rfl) fun x hT => ?_
  refine mq 15 [16, 17, 18, 19] hT hS rfl (fun w' hw => q_bin rfl rfl rfl (n_add (by omega))) fun x hT => ?_
  refine mq 16 [17, 18, 19] hT hS rfl (fun w' hw => q_slice rfl rfl (LO := none) (HI := some _) rfl rfl (sl_i_hi (by omega))) fun x hT => ?_
  refine M_one 17 (by kernel_rfl) ?_
  refine at_w hT rfl rfl rfl rfl (w_callN rfl rfl (by kernel_rfl) (args := [_, _]) rfl (c_innerOf E.hBw ((RD.ss (E.row (k := 3) rfl)).take (by omega)) ((RD.si (E.row (k := 5) rfl)).take (by omega)) (by omega) (by rw [List.length_take]; omega))) ?_
  rintro _ w ⟨r3, m⟩ x hT
  have hS := hS.trans (m.mono hS.size)
  have E := E.below m
  refine ⟨fun _ _ => hS, ?_⟩
  refine mq 18 [19] hT hS rfl (fun w' hw => q_index rfl rfl rfl (i_node (by omega))) fun x hT => ?_
  refine M_one 19 (by kernel_rfl) ?_
  refine at_s hT rfl rfl rfl (e_stN E rfl rfl rfl r3 (by rw [List.length_set]; exact hla)) ?_
  rintro _ w E
  refine ⟨fun h => absurd h (by decide), ?_⟩
  refine M_end (by kernel_rfl) ?_
  clear i1 r3
  show Code.wp _ _ _ _ _
  refine wp_seq ?_
  obtain ⟨tA, tc, tA2, tc2, tA3, tc3, p0, p1, p2, p3, E⟩ := E.readf (i := at') (lf := false) (nK := K' + 1) (nV := V) (I := kids) (by rw [List.getElem?_set_ne (Ne.symm haat), List.getElem?_set_ne (Ne.symm hjat)]; exact hat)
  obtain ⟨tb, rfl, htc⟩ := RD.sblk (E.row (k := 0) rfl) (by omega)
  have p1 := ck p1 _ (below_drew w)
  obtain ⟨s3, hs3⟩ := RD.sat ((E.below (below_drew w)).row (k := 6) rfl) (j := n) (by omega)
  refine wp_region_M (n := 15) (Below w.drew.heap.size w.drew) [0, 1, 2, 3, 4, 5, 6, 7, 8, 9, 10, 11, 12, 13] [] (by kernel_rfl) rfl ?_
  have hS := Below.refl w.drew.heap.size w.drew
  have E0 := E.below (below_drew w)
  have E := E0
  refine mq 0 [1, 3, 4, 5, 13, 14] hT hS rfl (fun w' hw => q_field rfl rfl fT rfl) fun x hT => ?_
  refine mq 1 [3, 4, 5, 13, 14] hT hS rfl (fun w' hw => q_load rfl rfl (l_sn (ck (by exact E0.cell (k := 4) rfl rfl) w' hw))) fun x hT => ?_
  refine mq 2 [3, 4, 5, 13, 14] hT hS rfl (fun w' hw => q_move rfl rfl) fun x hT => ?_
  refine mq 3 [4, 5, 13, 14] hT hS rfl (fun w' hw => q_index rfl rfl rfl (i_node (by omega))) fun x hT => ?_
  refine mq 4 [5, 13, 14] hT hS rfl (fun w' hw => q_field rfl rfl fN rfl) fun x hT => ?_
  refine mq 5 [13, 14] hT hS rfl (fun w' hw => q_load rfl rfl (l_ss (ck p1 w' hw))) fun x hT => ?_
  refine mq 6 [7, 13, 14] hT hS rfl (fun w' hw => q_move rfl rfl) fun x hT => ?_
  refine mq 7 [13, 14] hT hS rfl (fun w' hw => q_bin rfl rfl rfl (n_sub (by omega))) fun x hT => ?_
  refine mq 8 [9, 11, 12, 13, 14] hT hS rfl (fun w' hw => q_field rfl rfl fN rfl) fun x hT => ?_
  refine mq 9 [11, 12, 13, 14] hT hS rfl (fun w' hw => q_load rfl rfl (l_ss (ck (by exact E0.cell (k := 1) rfl rfl) w' hw))) fun x hT => ?_
  refine mq 10 [11, 12, 13, 14] hT hS rfl (fun w' hw => q_move rfl rfl) fun x hT => ?_
  refine mq 11 [12, 13, 14] hT hS rfl (fun w' hw => q_index rfl rfl rfl (i_str (by omega))) fun x hT => ?_
  refine mq 12 [13, 14] hT hS rfl (fun w' hw => q_load rfl rfl (l_str (ck hs3 w' hw))) fun x hT => ?_
  refine mq 13 [14] hT hS rfl (fun w' hw => q_index rfl rfl rfl (i_str (by omega))) fun x hT => ?_
  refine M_one 14 (by kernel_rfl) ?_
  refine at_s hT rfl rfl rfl (e_stS E rfl rfl rfl (E.row (k := 0) rfl) (by omega)) ?_
  rintro _ w E
  refine ⟨fun h => absurd h (by decide), ?_⟩
  refine M_end (by kernel_rfl) ?_
  show Code.wp _ _ _ _ _
  refine wp_seq ?_
  refine wp_region_lit ?_
  refine lq hT (q_load rfl rfl (l_tree (by exact E.cell (k := 4) rfl rfl) (by exact E.cell (k := 4) rfl rfl))) fun x hT => ?_
  refine L_s hT rfl rfl (e_st2 3 E rfl rfl rfl rfl rfl rfl) ?_
  rintro _ w E
  refine wpList_nil ?_
  show Code.wp _ _ _ _ _
  refine wp_ret ?_
  show bodyPost _ _ _ _ _ _
  refine ret_t hT rfl rfl (E.bx _ (nth_mem (k := 3) rfl)) ?_
  exact ⟨_, rfl, rfl, _, _, E.ts, E.fr, .inr ⟨rfl, q, hq, rfl, rfl⟩⟩
end Go.Proofs.Ytcolgghllacloaa.Tm
end

section
namespace Go.Proofs.Ytcolgghllacloaa.Tm
open Go.Rf (RowIn strs ints rep nodeT ownL blk Src IsLow IsUp)
open Go.RowKit Go.Proofs.Ytcolgghllacloaa.Q Go.Proofs.YtcolgghllacloaaW.PrintWords Go.Proofs.YtcolgghllacloaaW.PrintLast Go.Proofs.YtcolgghllacloaaW.PrintMore
def LendRR (lf : Bool) (aK jK : Nat) (aI jI : List Int) (nj na : Sk) : Prop :=
 (lf = true ∧ nj = (true, jK + 1, jK + 1, []) ∧ na = (true, aK - 1, aK - 1, [])) ∨
 (lf = false ∧ ∃ q, aI[0]? = some q ∧ nj = (false, jK + 1, 0, jI ++ [q]) ∧ na = (false, aK - 1, 0, aI.drop 1))
set_option maxRecDepth 100000 in
set_option maxHeartbeats 4000000 in
theorem lendR_any (w : World) (B g c : Nat) (root : Int) (S : List Sk) (at' k a j K V aK jK aV jV : Nat) (lf : Bool) (kids aI jI : List Int) (hB : B ≤ w.heap.size) (hS0 : TS w B g S) (hl : S.length = 19) (hc : S.length ≤ c) (hat : S[at']? = some (false, K, V, kids)) (hK : kids.length = K + 1) (hK4 : K ≤ 4)
  (hkj : kids[k]? = some (j : Int)) (hka : kids[k + 1]? = some (a : Int)) (hoa : S[a]? = some (lf, aK, aV, aI)) (hoj : S[j]? = some (lf, jK, jV, jI)) (h2 : 2 < aK) (h4a : aK ≤ 4) (h4j : jK ≤ 4) (hj1 : 0 < jK) (haj : a ≠ j) (haat : at' ≠ a) (hjat : at' ≠ j)
  (hlf : lf = true → aV = aK ∧ jV = jK) (hin : lf = false → aI.length = aK + 1 ∧ jI.length = jK + 1) :
  Calls Try.prog 99 #[tv root g S.length c, .int .i64 (at' : Int), .int .i64 (k : Int)] w (Ans (LendPost w B g c root S a j (LendRR lf aK jK aI jI))) := by
 have hlt := (List.getElem?_eq_some_iff.1 hat).1
 have hla := (List.getElem?_eq_some_iff.1 hoa).1
 have hlj := (List.getElem?_eq_some_iff.1 hoj).1
 have hk1 := (List.getElem?_eq_some_iff.1 hka).1
 have E := Env.start hB hS0
 obtain ⟨K', rfl⟩ : ∃ K', K = K' + 1 := ⟨K - 1, by omega⟩
 refine enter (args := [tv root g S.length c, .int .i64 (at' : Int), .int .i64 (k : Int)]) Try.func99 rfl Try.ntmps99 rfl ?_
 intro x hT
 refine wp_seq ?_
 refine wp_region_lit ?_
 refine L_w hT rfl rfl rfl (e_box E rfl rfl) ?_
 rintro _ w ⟨b3, rfl, E, m⟩ x hT
 refine L_w hT rfl rfl rfl (e_tree E rfl) ?_
 rintro _ w ⟨b6, rfl, E, m⟩ x hT
 refine wpList_nil ?_
 show Code.wp _ _ _ _ _
 refine wp_seq ?_
 obtain ⟨uA, uc, uA2, uc2, uA3, uc3, q0, q1, q2, q3, E⟩ := E.readf hat
 refine wp_region_lit ?_
 refine lq hT (q_field rfl rfl fT rfl) fun x hT => ?_
 refine lq hT (q_load rfl rfl (l_sn (by exact E.cell (k := 1) rfl rfl))) fun x hT => ?_
 refine lq hT (q_move rfl rfl) fun x hT => ?_
 refine lq hT (q_index rfl rfl rfl (i_node (by omega))) fun x hT => ?_
 refine lq hT (q_load rfl rfl (l_node q0 q1 q2 q3)) fun x hT => ?_
 refine L_w hT rfl rfl rfl (e_node E rfl) ?_
 rintro _ w ⟨b7, rfl, E, m⟩ x hT
 refine L_s hT rfl rfl (e_st4 0 E rfl rfl rfl rfl rfl rfl rfl rfl) ?_
 rintro _ w E
 refine wpList_nil ?_
 clear q0 q1 q2 q3
 show Code.wp _ _ _ _ _
 refine wp_seq ?_
 obtain ⟨kb, rfl, hkc⟩ := RD.iblk (E.row (k := 2) rfl) (by omega)
 obtain ⟨sb, rfl, hsc⟩ := RD.sblk (E.row (k := 0) rfl) (by omega)
 have i1 := RD.iat ((E.below (below_drew w)).row (k := 2) rfl) hkj
 obtain ⟨jA, jc, jA2, jc2, jA3, jc3, q0, q1, q2, q3, E⟩ := E.readf hoj
 have q0 := ck q0 _ (below_drew w)
 have q1 := ck q1 _ (below_drew w)
 have q2 := ck q2 _ (below_drew w)
 have q3 := ck q3 _ (below_drew w)
 refine wp_region_M (n := 11) (Below w.drew.heap.size w.drew) [0, 1, 2, 3, 4, 5, 6, 7, 8, 9] [] (by kernel_rfl) rfl ?_
 have hS := Below.refl w.drew.heap.size w.drew
 have E0 := E.below (below_drew w)
 have E := E0
 refine mq 0 [1, 7, 8, 10] hT hS rfl (fun w' hw => q_field rfl rfl fT rfl) fun x hT => ?_
 refine mq 1 [7, 8, 10] hT hS rfl (fun w' hw => q_load rfl rfl (l_sn (ck (by exact E0.cell (k := 2) rfl rfl) w' hw))) fun x hT => ?_
 refine mq 2 [3, 5, 6, 7, 8, 10] hT hS rfl (fun w' hw => q_field rfl rfl fN rfl) fun x hT => ?_
 refine mq 3 [5, 6, 7, 8, 10] hT hS rfl (fun w' hw => q_load rfl rfl (l_si (ck (by exact E0.cell (k := 0) rfl rfl) w' hw))) fun x hT => ?_
 refine mq 4 [5, 6, 7, 8, 10] hT hS rfl (fun w' hw => q_move rfl rfl) fun x hT => ?_
 refine mq 5 [6, 7, 8, 10] hT hS rfl (fun w' hw => q_index rfl rfl rfl (i_int (by omega))) fun x hT => ?_
 refine mq 6 [7, 8, 10] hT hS rfl (fun w' hw => q_load rfl rfl (l_int (ck i1 w' hw))) fun x hT => ?_
 refine mq 7 [8, 10] hT hS rfl (fun w' hw => q_index rfl rfl rfl (i_node (by omega))) fun x hT => ?_
 refine mq 8 [10] hT hS rfl (fun w' hw => q_load rfl rfl (l_node (ck q0 w' hw) (ck q1 w' hw) (ck q2 w' hw) (ck q3 w' hw))) fun x hT => ?_
 refine M_one 9 (by kernel_rfl) ?_
 refine at_w hT rfl rfl rfl rfl (e_node E rfl) ?_
 rintro _ w ⟨b8, rfl, E, m⟩ x hT
 have hS := hS.trans (m.mono hS.size)
 refine ⟨fun _ _ => hS, ?_⟩
 refine M_one 10 (by kernel_rfl) ?_
 refine at_s hT rfl rfl rfl (e_st4 0 E rfl rfl rfl rfl rfl rfl rfl rfl) ?_
 rintro _ w E
 refine ⟨fun h => absurd h (by decide), ?_⟩
 refine M_end (by kernel_rfl) ?_
 clear q0 q1 q2 q3 i1
 show Code.wp _ _ _ _ _
 refine wp_seq ?_
 have i1 := RD.iat ((E.below (below_drew w)).row (k := 5) rfl) hka
 obtain ⟨aA, ac, aA2, ac2, aA3, ac3, q0, q1, q2, q3, E⟩ := E.readf hoa
 have q0 := ck q0 _ (below_drew w)
 have q1 := ck q1 _ (below_drew w)
 have q2 := ck q2 _ (below_drew w)
 have q3 := ck q3 _ (below_drew w)
 refine wp_region_M (n := 12) (Below w.drew.heap.size w.drew) [0, 1, 2, 3, 4, 5, 6, 7, 8, 9, 10] [] (by kernel_rfl) rfl ?_
 have hS := Below.refl w.drew.heap.size w.drew
 have E0 := E.below (below_drew w)
 have E := E0
 refine mq 0 [1, 8, 9, 11] hT hS rfl (fun w' hw => q_field rfl rfl fT rfl) fun x hT => ?_
 refine mq 1 [8, 9, 11] hT hS rfl (fun w' hw => q_load rfl rfl (l_sn (ck (by exact E0.cell (k := 3) rfl rfl) w' hw))) fun x hT => ?_
 refine mq 2 [3, 6, 7, 8, 9, 11] hT hS rfl (fun w' hw => q_field rfl rfl fN rfl) fun x hT => ?_
 refine mq 3 [6, 7, 8, 9, 11] hT hS rfl (fun w' hw => q_load rfl rfl (l_si (ck (by exact E0.cell (k := 1) rfl rfl) w' hw))) fun x hT => ?_
 refine mq 4 [5, 6, 7, 8, 9, 11] hT hS rfl (fun w' hw => q_move rfl rfl) fun x hT => ?_
 refine mq 5 [6, 7, 8, 9, 11] hT hS rfl (fun w' hw => q_bin rfl rfl rfl (n_add (by omega))) fun x hT => ?_
 refine mq 6 [7, 8, 9, 11] hT hS rfl (fun w' hw => q_index rfl rfl rfl (i_int (by omega))) fun x hT => ?_
 refine mq 7 [8, 9, 11] hT hS rfl (fun w' hw => q_load rfl rfl (l_int (ck i1 w' hw))) fun x hT => ?_
 refine mq 8 [9, 11] hT hS rfl (fun w' hw => q_index rfl rfl rfl (i_node (by omega))) fun x hT => ?_
 refine mq 9 [11] hT hS rfl (fun w' hw => q_load rfl rfl (l_node (ck q0 w' hw) (ck q1 w' hw) (ck q2 w' hw) (ck q3 w' hw))) fun x hT => ?_
 refine M_one 10 (by kernel_rfl) ?_
 refine at_w hT rfl rfl rfl rfl (e_node E rfl) ?_
 rintro _ w ⟨b9, rfl, E, m⟩ x hT
 have hS := hS.trans (m.mono hS.size)
 refine ⟨fun _ _ => hS, ?_⟩
 refine M_one 11 (by kernel_rfl) ?_
 refine at_s hT rfl rfl rfl (e_st4 0 E rfl rfl rfl rfl rfl rfl rfl rfl) ?_
 rintro _ w E
 refine ⟨fun h => absurd h (by decide), ?_⟩
 refine M_end (by kernel_rfl) ?_
 clear q0 q1 q2 q3 i1
 obtain ⟨ab, rfl, hac⟩ := RD.sblk (E.row (k := 0) rfl) (by omega)
 show Code.wp _ _ _ _ _
 refine wp_seq ?_
 refine wp_seq ?_
 refine wp_region_lit ?_
 refine lq hT (q_field rfl rfl fN rfl) fun x hT => ?_
 refine lq hT (q_load rfl rfl (l_bool (by exact E.cell (k := 1) rfl rfl))) fun x hT => ?_
 refine wpList_nil ?_
 show Code.wp _ _ _ _ _
 cases lf with
 | true =>
  obtain ⟨rfl, rfl⟩ := hlf rfl
  refine wp_cond_true (hT.ev rfl) ?_
  refine wp_seq ?_
  obtain ⟨vb, rfl, hvc⟩ := RD.sblk (E.row (k := 1) rfl) (by omega)
  have i1 := RD.iat ((E.below (below_drew w)).row (k := 8) rfl) hkj
  obtain ⟨s1, hs1⟩ := RD.sat ((E.below (below_drew w)).row (k := 0) rfl) (j := 0) (by omega)
  obtain ⟨s2, hs2⟩ := RD.sat ((E.below (below_drew w)).row (k := 1) rfl) (j := 0) (by omega)
  refine wp_region_M (n := 30) (Below w.drew.heap.size w.drew) [0, 1, 2, 3, 4, 5, 6, 7, 8, 9, 10, 11, 12, 13, 14, 15, 16, 17, 18, 19, 20, 21, 22, 23, 24, 25, 26, 27, 28] [] (by kernel_rfl) rfl ?_
  have hS := Below.refl w.drew.heap.size w.drew
  have E0 := E.below (below_drew w)
  have E := E0
  refine mq 0 [1, 28, 29] hT hS rfl (fun w' hw => q_field rfl rfl fT rfl) fun x hT => ?_
  refine mq 1 [28, 29] hT hS rfl (fun w' hw => q_load rfl rfl (l_sn (ck (by exact E0.cell (k := 4) rfl rfl) w' hw))) fun x hT => ?_
  refine mq 2 [3, 5, 6, 28, 29] hT hS rfl (fun w' hw => q_field rfl rfl fN rfl) fun x hT => ?_
  refine mq 3 [5, 6, 28, 29] hT hS rfl (fun w' hw => q_load rfl rfl (l_si (ck (by exact E0.cell (k := 2) rfl rfl) w' hw))) fun x hT => ?_
  refine mq 4 [5, 6, 28, 29] hT hS rfl (fun w' hw => q_move rfl rfl) fun x hT => ?_
  refine mq 5 [6, 28, 29] hT hS rfl (fun w' hw => q_index rfl rfl rfl (i_int (by omega))) fun x hT => ?_
  refine mq 6 [28, 29] hT hS rfl (fun w' hw => q_load rfl rfl (l_int (ck i1 w' hw))) fun x hT => ?_
  refine mq 7 [8, 16, 26, 27, 28, 29] hT hS rfl (fun w' hw => q_field rfl rfl fN rfl) fun x hT => ?_
  refine mq 8 [16, 26, 27, 28, 29] hT hS rfl (fun w' hw => q_load rfl rfl (l_ss (ck (by exact E0.cell (k := 1) rfl rfl) w' hw))) fun x hT => ?_
  refine mq 9 [10, 11, 16, 26, 27, 28, 29] hT hS rfl (fun w' hw => q_field rfl rfl fN rfl) fun x hT => ?_
  refine mq 10 [11, 16, 26, 27, 28, 29] hT hS rfl (fun w' hw => q_load rfl rfl (l_ss (ck (by exact E0.cell (k := 1) rfl rfl) w' hw))) fun x hT => ?_
  refine mq 11 [16, 26, 27, 28, 29] hT hS rfl (fun w' hw => q_len rfl Try.underlying62 rfl) fun x hT => ?_
  refine mq 12 [13, 14, 15, 16, 26, 27, 28, 29] hT hS rfl (fun w' hw => q_field rfl rfl fN rfl) fun x hT => ?_
  refine mq 13 [14, 15, 16, 26, 27, 28, 29] hT hS rfl (fun w' hw => q_load rfl rfl (l_ss (ck (by exact E0.cell (k := 0) rfl rfl) w' hw))) fun x hT => ?_
  refine mq 14 [15, 16, 26, 27, 28, 29] hT hS rfl (fun w' hw => q_index rfl rfl rfl (i_str0 (by omega))) fun x hT => ?_
  refine mq 15 [16, 26, 27, 28, 29] hT hS rfl (fun w' hw => q_load rfl rfl (l_str (ck hs1 w' hw))) fun x hT => ?_
  refine mq 17 [18, 26, 27, 28, 29] hT hS rfl (fun w' hw => q_field rfl rfl fN rfl) fun x hT => ?_
  refine mq 18 [26, 27, 28, 29] hT hS rfl (fun w' hw => q_load rfl rfl (l_ss (ck (by exact E0.cell (k := 1) rfl rfl) w' hw))) fun x hT => ?_
  refine mq 19 [20, 21, 26, 27, 28, 29] hT hS rfl (fun w' hw => q_field rfl rfl fN rfl) fun x hT => ?_
  refine mq 20 [21, 26, 27, 28, 29] hT hS rfl (fun w' hw => q_load rfl rfl (l_ss (ck (by exact E0.cell (k := 1) rfl rfl) w' hw))) fun x hT => ?_
  refine mq 21 [26, 27, 28, 29] hT hS rfl (fun w' hw => q_len rfl Try.underlying62 rfl) fun x hT => ?_
  refine mq 22 [23, 24, 25, 26, 27, 28, 29] hT hS rfl (fun w' hw => q_field rfl rfl fN rfl) fun x hT => ?_
  refine mq 23 [24, 25, 26, 27, 28, 29] hT hS rfl (fun w' hw => q_load rfl rfl (l_ss (ck (by exact E0.cell (k := 0) rfl rfl) w' hw))) fun x hT => ?_
  refine mq 24 [25, 26, 27, 28, 29] hT hS rfl (fun w' hw => q_index rfl rfl rfl (i_str0 (by omega))) fun x hT => ?_
  refine mq 25 [26, 27, 28, 29] hT hS rfl (fun w' hw => q_load rfl rfl (l_str (ck hs2 w' hw))) fun x hT => ?_
  refine M_one 16 (by kernel_rfl) ?_
  refine at_w hT rfl rfl rfl rfl (w_callN rfl rfl (by kernel_rfl) (args := [_, _, _]) rfl (c_in E.hBw (RD.ss (E.row (k := 3) rfl)) (by omega) (Nat.le_refl _))) ?_
  rintro _ w ⟨r1, m⟩ x hT
  have hS := hS.trans (m.mono hS.size)
  have E := E.below m
  refine ⟨fun _ _ => hS, ?_⟩
  refine M_one 26 (by kernel_rfl) ?_
  refine at_w hT rfl rfl rfl rfl (w_callN rfl rfl (by kernel_rfl) (args := [_, _, _]) rfl (c_in E.hBw (RD.ss (E.row (k := 4) rfl)) (by omega) (Nat.le_refl _))) ?_
  rintro _ w ⟨r2, m⟩ x hT
  have hS := hS.trans (m.mono hS.size)
  have E := E.below m
  have r1 := RD.below (r := .s _ _) r1 m
  refine ⟨fun _ _ => hS, ?_⟩
  refine M_one 27 (by kernel_rfl) ?_
  refine at_w hT rfl rfl rfl rfl (w_callN rfl rfl (by kernel_rfl) (args := [_, _]) rfl (c_leafOf E.hBw (RD.ss r1) (RD.ss r2) (by omega) (by omega))) ?_
  rintro _ w ⟨r3, m⟩ x hT
  have hS := hS.trans (m.mono hS.size)
  have E := E.below m
  refine ⟨fun _ _ => hS, ?_⟩
  refine mq 28 [29] hT hS rfl (fun w' hw => q_index rfl rfl rfl (i_node (by omega))) fun x hT => ?_
  refine M_one 29 (by kernel_rfl) ?_
  refine at_s hT rfl rfl rfl (e_stN E rfl rfl rfl r3 hlj) ?_
  rintro _ w E
  refine ⟨fun h => absurd h (by decide), ?_⟩
  refine M_end (by kernel_rfl) ?_
  clear i1 hs1 hs2 r1 r2 r3
  show Code.wp _ _ _ _ _
  refine wp_seq ?_
  have i1 := RD.iat ((E.below (below_drew w)).row (k := 8) rfl) hka
  refine wp_region_M (n := 17) (Below w.drew.heap.size w.drew) [0, 1, 2, 3, 4, 5, 6, 7, 8, 9, 10, 11, 12, 13, 14, 15] [] (by kernel_rfl) rfl ?_
  have hS := Below.refl w.drew.heap.size w.drew
  have E0 := E.below (below_drew w)
  have E := E0
  refine mq 0 [1, 15, 16] hT hS rfl (fun w' hw => q_field rfl rfl fT rfl) fun x hT => ?_
  refine mq 1 [15, 16] hT hS rfl (fun w' hw => q_load rfl rfl (l_sn (ck (by exact E0.cell (k := 4) rfl rfl) w' hw))) fun x hT => ?_
  refine mq 2 [3, 6, 7, 15, 16] hT hS rfl (fun w' hw => q_field rfl rfl fN rfl) fun x hT => ?_
  refine mq 3 [6, 7, 15, 16] hT hS rfl (fun w' hw => q_load rfl rfl (l_si (ck (by exact E0.cell (k := 2) rfl rfl) w' hw))) fun x hT => ?_
  refine mq 4 [5, 6, 7, 15, 16] hT hS rfl (fun w' hw => q_move rfl rfl) fun x hT => ?_
  refine mq 5 [6, 7, 15, 16] hT hS rfl (fun w' hw => q_bin rfl rfl rfl (n_add (by omega))) fun x hT => ?_
  refine mq 6 [7, 15, 16] hT hS rfl (fun w' hw => q_index rfl rfl rfl (i_int (by omega))) fun x hT => ?_
  refine mq 7 [15, 16] hT hS rfl (fun w' hw => q_load rfl rfl (l_int (ck i1 w' hw))) fun x hT => ?_
  refine mq 8 [9, 10, 14, 15, 16] hT hS rfl (fun w' hw => q_field rfl rfl fN rfl) fun x hT => ?_
  refine mq 9 [10, 14, 15, 16] hT hS rfl (fun w' hw => q_load rfl rfl (l_ss (ck (by exact E0.cell (k := 0) rfl rfl) w' hw))) fun x hT => ?_
  refine mq 10 [14, 15, 16] hT hS rfl (fun w' hw => q_slice rfl rfl (LO := some _) (HI := none) rfl rfl (sl_s_lo1 (by omega) (by omega))) fun x hT => ?_
  refine mq 11 [12, 13, 14, 15, 16] hT hS rfl (fun w' hw => q_field rfl rfl fN rfl) fun x hT => ?_
  refine mq 12 [13, 14, 15, 16] hT hS rfl (fun w' hw => q_load rfl rfl (l_ss (ck (by exact E0.cell (k := 0) rfl rfl) w' hw))) fun x hT => ?_
  refine mq 13 [14, 15, 16] hT hS rfl (fun w' hw => q_slice rfl rfl (LO := some _) (HI := none) rfl rfl (sl_s_lo1 (by omega) (by omega))) fun x hT => ?_
  refine M_one 14 (by kernel_rfl) ?_
  refine at_w hT rfl rfl rfl rfl (w_callN rfl rfl (by kernel_rfl) (args := [_, _]) rfl (c_leafOf E.hBw ((RD.ss (E.row (k := 0) rfl)).drop (by omega)) ((RD.ss (E.row (k := 1) rfl)).drop (by omega)) (by omega) (by omega))) ?_
  rintro _ w ⟨r3, m⟩ x hT
  have hS := hS.trans (m.mono hS.size)
  have E := E.below m
  refine ⟨fun _ _ => hS, ?_⟩
  refine mq 15 [16] hT hS rfl (fun w' hw => q_index rfl rfl rfl (i_node (by omega))) fun x hT => ?_
  refine M_one 16 (by kernel_rfl) ?_
  refine at_s hT rfl rfl rfl (e_stN E rfl rfl rfl r3 (by rw [List.length_set]; exact hla)) ?_
  rintro _ w E
  refine ⟨fun h => absurd h (by decide), ?_⟩
  refine M_end (by kernel_rfl) ?_
  clear i1 r3
  show Code.wp _ _ _ _ _
  obtain ⟨tA, tc, tA2, tc2, tA3, tc3, p0, p1, p2, p3, E⟩ := E.readf (i := at') (lf := false) (nK := K' + 1) (nV := V) (I := kids) (by rw [List.getElem?_set_ne (Ne.symm haat), List.getElem?_set_ne (Ne.symm hjat)]; exact hat)
  obtain ⟨tb, rfl, htc⟩ := RD.sblk (E.row (k := 0) rfl) (by omega)
  have p1 := ck p1 _ (below_drew w)
  obtain ⟨s3, hs3⟩ := RD.sat ((E.below (below_drew w)).row (k := 3) rfl) (j := 1) (by omega)
  refine wp_region_M (n := 13) (Below w.drew.heap.size w.drew) [0, 1, 2, 3, 4, 5, 6, 7, 8, 9, 10, 11] [] (by kernel_rfl) rfl ?_
  have hS := Below.refl w.drew.heap.size w.drew
  have E0 := E.below (below_drew w)
  have E := E0
  refine mq 0 [1, 3, 4, 5, 11, 12] hT hS rfl (fun w' hw => q_field rfl rfl fT rfl) fun x hT => ?_
  refine mq 1 [3, 4, 5, 11, 12] hT hS rfl (fun w' hw => q_load rfl rfl (l_sn (ck (by exact E0.cell (k := 4) rfl rfl) w' hw))) fun x hT => ?_
  refine mq 2 [3, 4, 5, 11, 12] hT hS rfl (fun w' hw => q_move rfl rfl) fun x hT => ?_
  refine mq 3 [4, 5, 11, 12] hT hS rfl (fun w' hw => q_index rfl rfl rfl (i_node (by omega))) fun x hT => ?_
  refine mq 4 [5, 11, 12] hT hS rfl (fun w' hw => q_field rfl rfl fN rfl) fun x hT => ?_
  refine mq 5 [11, 12] hT hS rfl (fun w' hw => q_load rfl rfl (l_ss (ck p1 w' hw))) fun x hT => ?_
  refine mq 6 [11, 12] hT hS rfl (fun w' hw => q_move rfl rfl) fun x hT => ?_
  refine mq 7 [8, 9, 10, 11, 12] hT hS rfl (fun w' hw => q_field rfl rfl fN rfl) fun x hT => ?_
  refine mq 8 [9, 10, 11, 12] hT hS rfl (fun w' hw => q_load rfl rfl (l_ss (ck (by exact E0.cell (k := 0) rfl rfl) w' hw))) fun x hT => ?_
  refine mq 9 [10, 11, 12] hT hS rfl (fun w' hw => q_index rfl rfl rfl (i_str1 (by omega))) fun x hT => ?_
  refine mq 10 [11, 12] hT hS rfl (fun w' hw => q_load rfl rfl (l_str (ck hs3 w' hw))) fun x hT => ?_
  refine mq 11 [12] hT hS rfl (fun w' hw => q_index rfl rfl rfl (i_str (by omega))) fun x hT => ?_
  refine M_one 12 (by kernel_rfl) ?_
  refine at_s hT rfl rfl rfl (e_stS E rfl rfl rfl (E.row (k := 0) rfl) (by omega)) ?_
  rintro _ w E
  refine ⟨fun h => absurd h (by decide), ?_⟩
  refine M_end (by kernel_rfl) ?_
  show Code.wp _ _ _ _ _
  refine wp_seq ?_
  refine wp_region_lit ?_
  refine lq hT (q_load rfl rfl (l_tree (by exact E.cell (k := 4) rfl rfl) (by exact E.cell (k := 4) rfl rfl))) fun x hT => ?_
  refine L_s hT rfl rfl (e_st2 3 E rfl rfl rfl rfl rfl rfl) ?_
  rintro _ w E
  refine wpList_nil ?_
  show Code.wp _ _ _ _ _
  refine wp_ret ?_
  show bodyPost _ _ _ _ _ _
  refine ret_t hT rfl rfl (E.bx _ (nth_mem (k := 3) rfl)) ?_
  exact ⟨_, rfl, rfl, _, _, E.ts, E.fr, .inl ⟨rfl, rfl, rfl⟩⟩
 | false =>
  obtain ⟨hia, hij⟩ := hin rfl
  refine wp_cond_false (hT.ev rfl) ?_
  refine wp_seq ?_
  obtain ⟨ib, rfl, hic⟩ := RD.iblk (E.row (k := 2) rfl) (by omega)
  obtain ⟨jb, rfl, hjc⟩ := RD.iblk (E.row (k := 5) rfl) (by omega)
  have hq : ∃ q, aI[0]? = some q := ⟨_, List.getElem?_eq_getElem (by omega)⟩
  obtain ⟨q, hq⟩ := hq
  have i1 := RD.iat ((E.below (below_drew w)).row (k := 8) rfl) hkj
  obtain ⟨s1, hs1⟩ := RD.sat ((E.below (below_drew w)).row (k := 6) rfl) (j := k) (by omega)
  have i2 := RD.iat ((E.below (below_drew w)).row (k := 2) rfl) hq
  refine wp_region_M (n := 31) (Below w.drew.heap.size w.drew) [0, 1, 2, 3, 4, 5, 6, 7, 8, 9, 10, 11, 12, 13, 14, 15, 16, 17, 18, 19, 20, 21, 22, 23, 24, 25, 26, 27, 28, 29] [] (by kernel_rfl) rfl ?_
  have hS := Below.refl w.drew.heap.size w.drew
  have E0 := E.below (below_drew w)
  have E := E0
  refine mq 0 [1, 29, 30] hT hS rfl (fun w' hw => q_field rfl rfl fT rfl) fun x hT => ?_
  refine mq 1 [29, 30] hT hS rfl (fun w' hw => q_load rfl rfl (l_sn (ck (by exact E0.cell (k := 4) rfl rfl) w' hw))) fun x hT => ?_
  refine mq 2 [3, 5, 6, 29, 30] hT hS rfl (fun w' hw => q_field rfl rfl fN rfl) fun x hT => ?_
  refine mq 3 [5, 6, 29, 30] hT hS rfl (fun w' hw => q_load rfl rfl (l_si (ck (by exact E0.cell (k := 2) rfl rfl) w' hw))) fun x hT => ?_
  refine mq 4 [5, 6, 29, 30] hT hS rfl (fun w' hw => q_move rfl rfl) fun x hT => ?_
  refine mq 5 [6, 29, 30] hT hS rfl (fun w' hw => q_index rfl rfl rfl (i_int (by omega))) fun x hT => ?_
  refine mq 6 [29, 30] hT hS rfl (fun w' hw => q_load rfl rfl (l_int (ck i1 w' hw))) fun x hT => ?_
  refine mq 7 [8, 17, 27, 28, 29, 30] hT hS rfl (fun w' hw => q_field rfl rfl fN rfl) fun x hT => ?_
  refine mq 8 [17, 27, 28, 29, 30] hT hS rfl (fun w' hw => q_load rfl rfl (l_ss (ck (by exact E0.cell (k := 1) rfl rfl) w' hw))) fun x hT => ?_
  refine mq 9 [10, 11, 17, 27, 28, 29, 30] hT hS rfl (fun w' hw => q_field rfl rfl fN rfl) fun x hT => ?_
  refine mq 10 [11, 17, 27, 28, 29, 30] hT hS rfl (fun w' hw => q_load rfl rfl (l_ss (ck (by exact E0.cell (k := 1) rfl rfl) w' hw))) fun x hT => ?_
  refine mq 11 [17, 27, 28, 29, 30] hT hS rfl (fun w' hw => q_len rfl Try.underlying62 rfl) fun x hT => ?_
  refine mq 12 [13, 15, 16, 17, 27, 28, 29, 30] hT hS rfl (fun w' hw => q_field rfl rfl fN rfl) fun x hT => ?_
  refine mq 13 [15, 16, 17, 27, 28, 29, 30] hT hS rfl (fun w' hw => q_load rfl rfl (l_ss (ck (by exact E0.cell (k := 2) rfl rfl) w' hw))) fun x hT => ?_
  refine mq 14 [15, 16, 17, 27, 28, 29, 30] hT hS rfl (fun w' hw => q_move rfl rfl) fun x hT => ?_
  refine mq 15 [16, 17, 27, 28, 29, 30] hT hS rfl (fun w' hw => q_index rfl rfl rfl (i_str (by omega))) fun x hT => ?_
  refine mq 16 [17, 27, 28, 29, 30] hT hS rfl (fun w' hw => q_load rfl rfl (l_str (ck hs1 w' hw))) fun x hT => ?_
  refine mq 18 [19, 27, 28, 29, 30] hT hS rfl (fun w' hw => q_field rfl rfl fN rfl) fun x hT => ?_
  refine mq 19 [27, 28, 29, 30] hT hS rfl (fun w' hw => q_load rfl rfl (l_si (ck (by exact E0.cell (k := 1) rfl rfl) w' hw))) fun x hT => ?_
  refine mq 20 [21, 22, 27, 28, 29, 30] hT hS rfl (fun w' hw => q_field rfl rfl fN rfl) fun x hT => ?_
  refine mq 21 [22, 27, 28, 29, 30] hT hS rfl (fun w' hw => q_load rfl rfl (l_si (ck (by exact E0.cell (k := 1) rfl rfl) w' hw))) fun x hT => ?_
  refine mq 22 [27, 28, 29, 30] hT hS rfl (fun w' hw => q_len rfl Try.underlying65 rfl) fun x hT => ?_
  refine mq 23 [24, 25, 26, 27, 28, 29, 30] hT hS rfl (fun w' hw => q_field rfl rfl fN rfl) fun x hT => ?_
  refine mq 24 [25, 26, 27, 28, 29, 30] hT hS rfl (fun w' hw => q_load rfl rfl (l_si (ck (by exact E0.cell (k := 0) rfl rfl) w' hw))) fun x hT => ?_
  refine mq 25 [26, 27, 28, 29, 30] hT hS rfl (fun w' hw => q_index rfl rfl rfl (i_int0 (by omega))) fun x hT => ?_
  refine mq 26 [27, 28, 29, 30] hT hS rfl (fun w' hw => q_load rfl rfl (l_int (ck i2 w' hw))) fun x hT => ?_
  refine M_one 17 (by kernel_rfl) ?_
  refine at_w hT rfl rfl rfl rfl (w_callN rfl rfl (by kernel_rfl) (args := [_, _, _]) rfl (c_in E.hBw (RD.ss (E.row (k := 3) rfl)) (by omega) (Nat.le_refl _))) ?_
  rintro _ w ⟨r1, m⟩ x hT
  have hS := hS.trans (m.mono hS.size)
  have E := E.below m
  refine ⟨fun _ _ => hS, ?_⟩
  refine M_one 27 (by kernel_rfl) ?_
  refine at_w hT rfl rfl rfl rfl (w_callN rfl rfl (by kernel_rfl) (args := [_, _, _]) rfl (c_inNum E.hBw (RD.si (E.row (k := 5) rfl)) (by omega) (Nat.le_refl _))) ?_
  rintro _ w ⟨r2, m⟩ x hT
  have hS := hS.trans (m.mono hS.size)
  have E := E.below m
  have r1 := RD.below (r := .s _ _) r1 m
  refine ⟨fun _ _ => hS, ?_⟩
  refine M_one 28 (by kernel_rfl) ?_
  refine at_w hT rfl rfl rfl rfl (w_callN rfl rfl (by kernel_rfl) (args := [_, _]) rfl (c_innerOf E.hBw (RD.ss r1) (RD.si r2) (by omega) (by simp; omega))) ?_
  rintro _ w ⟨r3, m⟩ x hT
  have hS := hS.trans (m.mono hS.size)
  have E := E.below m
  refine ⟨fun _ _ => hS, ?_⟩
  refine mq 29 [30] hT hS rfl (fun w' hw => q_index rfl rfl rfl (i_node (by omega))) fun x hT => ?_
  refine M_one 30 (by kernel_rfl) ?_
  refine at_s hT rfl rfl rfl (e_stN E rfl rfl rfl r3 hlj) ?_
  rintro _ w E
  refine ⟨fun h => absurd h (by decide), ?_⟩
  refine M_end (by kernel_rfl) ?_
  clear i1 hs1 i2 r1 r2 r3
  show Code.wp _ _ _ _ _
  refine wp_seq ?_
  have i1 := RD.iat ((E.below (below_drew w)).row (k := 8) rfl) hka
  refine wp_region_M (n := 17) (Below w.drew.heap.size w.drew) [0, 1, 2, 3, 4, 5, 6, 7, 8, 9, 10, 11, 12, 13, 14, 15] [] (by kernel_rfl) rfl ?_
  have hS := Below.refl w.drew.heap.size w.drew
  have E0 := E.below (below_drew w)
  have E := E0
  refine mq 0 [1, 15, 16] hT hS rfl (fun w' hw => q_field rfl rfl fT rfl) fun x hT => ?_
  refine mq 1 [15, 16] hT hS rfl (fun w' hw => q_load rfl rfl (l_sn (ck (by exact E0.cell (k := 4) rfl rfl) w' hw))) fun x hT => ?_
  refine mq 2 [3, 6, 7, 15, 16] hT hS rfl (fun w' hw => q_field rfl rfl fN rfl) fun x hT => ?_
  refine mq 3 [6, 7, 15, 16] hT hS rfl (fun w' hw => q_load rfl rfl (l_si (ck (by exact E0.cell (k := 2) rfl rfl) w' hw))) fun x hT => ?_
  refine mq 4 [5, 6, 7, 15, 16] hT hS rfl (fun w' hw => q_move rfl rfl) fun x hT => ?_
  refine mq 5 [6, 7, 15, 16] hT hS rfl (fun w' hw => q_bin rfl rfl rfl (n_add (by omega))) fun x hT => ?_
  refine mq 6 [7, 15, 16] hT hS rfl (fun w' hw => q_index rfl rfl rfl (i_int (by omega))) fun x hT => ?_
  refine mq 7 [15, 16] hT hS rfl (fun w' hw => q_load rfl rfl (l_int (ck i1 w' hw))) fun x hT => ?_
  refine mq 8 [9, 10, 14, 15, 16] hT hS rfl (fun w' hw => q_field rfl rfl fN rfl) fun x hT => ?_
  refine mq 9 [10, 14, 15, 16] hT hS rfl (fun w' hw => q_load rfl rfl (l_ss (ck (by exact E0.cell (k := 0) rfl rfl) w' hw))) fun x hT => ?_
  refine mq 10 [14, 15, 16] hT hS rfl (fun w' hw => q_slice rfl rfl (LO := some _) (HI := none) rfl rfl (sl_s_lo1 (by omega) (by omega))) fun x hT => ?_
  refine mq 11 [12, 13, 14, 15, 16] hT hS rfl (fun w' hw => q_field rfl rfl fN rfl) fun x hT => ?_
  refine mq 12 [13, 14, 15, 16] hT hS rfl (fun w' hw => q_load rfl rfl (l_si (ck (by exact E0.cell (k := 0) rfl rfl) w' hw))) fun x hT => ?_
  refine mq 13 [14, 15, 16] hT hS rfl (fun w' hw => q_slice rfl rfl (LO := some _) (HI := none) rfl rfl (sl_i_lo1 (by omega) (by omega))) fun x hT => ?_
  refine M_one 14 (by kernel_rfl) ?_
  refine at_w hT rfl rfl rfl rfl (w_callN rfl rfl (by kernel_rfl) (args := [_, _]) rfl (c_innerOf E.hBw ((RD.ss (E.row (k := 0) rfl)).drop (by omega)) ((RD.si (E.row (k := 2) rfl)).drop (by omega)) (by omega) (by rw [List.length_drop]; omega))) ?_
  rintro _ w ⟨r3, m⟩ x hT
  have hS := hS.trans (m.mono hS.size)
  have E := E.below m
  refine ⟨fun _ _ => hS, ?_⟩
  refine mq 15 [16] hT hS rfl (fun w' hw => q_index rfl rfl rfl (i_node (by omega))) fun x hT => ?_
  refine M_one 16 (by kernel_rfl) ?_
  refine at_s hT rfl rfl rfl (e_stN E rfl rfl rfl r3 (by rw [List.length_set]; exact hla)) ?_
  rintro _ w E
  refine ⟨fun h => absurd h (by decide), ?_⟩
  refine M_end (by kernel_rfl) ?_
  clear i1 r3
  show Code.wp _ _ _ _ _
  obtain ⟨tA, tc, tA2, tc2, tA3, tc3, p0, p1, p2, p3, E⟩ := E.readf (i := at') (lf := false) (nK := K' + 1) (nV := V) (I := kids) (by rw [List.getElem?_set_ne (Ne.symm haat), List.getElem?_set_ne (Ne.symm hjat)]; exact hat)
  obtain ⟨tb, rfl, htc⟩ := RD.sblk (E.row (k := 0) rfl) (by omega)
  have p1 := ck p1 _ (below_drew w)
  obtain ⟨s3, hs3⟩ := RD.sat ((E.below (below_drew w)).row (k := 3) rfl) (j := 0) (by omega)
  refine wp_region_M (n := 13) (Below w.drew.heap.size w.drew) [0, 1, 2, 3, 4, 5, 6, 7, 8, 9, 10, 11] [] (by kernel_rfl) rfl ?_
  have hS := Below.refl w.drew.heap.size w.drew
  have E0 := E.below (below_drew w)
  have E := E0
  refine mq 0 [1, 3, 4, 5, 11, 12] hT hS rfl (fun w' hw => q_field rfl rfl fT rfl) fun x hT => ?_
  refine mq 1 [3, 4, 5, 11, 12] hT hS rfl (fun w' hw => q_load rfl rfl (l_sn (ck (by exact E0.cell (k := 4) rfl rfl) w' hw))) fun x hT => ?_
  refine mq 2 [3, 4, 5, 11, 12] hT hS rfl (fun w' hw => q_move rfl rfl) fun x hT => ?_
  refine mq 3 [4, 5, 11, 12] hT hS rfl (fun w' hw => q_index rfl rfl rfl (i_node (by omega))) fun x hT => ?_
  refine mq 4 [5, 11, 12] hT hS rfl (fun w' hw => q_field rfl rfl fN rfl) fun x hT => ?_
  refine mq 5 [11, 12] hT hS rfl (fun w' hw => q_load rfl rfl (l_ss (ck p1 w' hw))) fun x hT => ?_
  refine mq 6 [11, 12] hT hS rfl (fun w' hw => q_move rfl rfl) fun x hT => ?_
  refine mq 7 [8, 9, 10, 11, 12] hT hS rfl (fun w' hw => q_field rfl rfl fN rfl) fun x hT => ?_
  refine mq 8 [9, 10, 11, 12] hT hS rfl (fun w' hw => q_load rfl rfl (l_ss (ck (by exact E0.cell (k := 0) rfl rfl) w' hw))) fun x hT => ?_
  refine mq 9 [10, 11, 12] hT hS rfl (fun w' hw => q_index rfl rfl rfl (i_str0 (by omega))) fun x hT => ?_
  refine mq 10 [11, 12] hT hS rfl (fun w' hw => q_load rfl rfl (l_str (ck hs3 w' hw))) fun x hT => ?_
  refine mq 11 [12] hT hS rfl (fun w' hw => q_index rfl rfl rfl (i_str (by omega))) fun x hT => ?_
  refine M_one 12 (by kernel_rfl) ?_
  refine at_s hT rfl rfl rfl (e_stS E rfl rfl rfl (E.row (k := 0) rfl) (by omega)) ?_
  rintro _ w E
  refine ⟨fun h => absurd h (by decide), ?_⟩
  refine M_end (by kernel_rfl) ?_
  show Code.wp _ _ _ _ _
  refine wp_seq ?_
  refine wp_region_lit ?_
  refine lq hT (q_load rfl rfl (l_tree (by exact E.cell (k := 4) rfl rfl) (by exact E.cell (k := 4) rfl rfl))) fun x hT => ?_
  refine L_s hT rfl rfl (e_st2 3 E rfl rfl rfl rfl rfl rfl) ?_
  rintro _ w E
  refine wpList_nil ?_
  show Code.wp _ _ _ _ _
  refine wp_ret ?_
  show bodyPost _ _ _ _ _ _
  refine ret_t hT rfl rfl (E.bx _ (nth_mem (k := 3) rfl)) ?_
  exact ⟨_, rfl, rfl, _, _, E.ts, E.fr, .inr ⟨rfl, q, hq, by simp, rfl⟩⟩
end Go.Proofs.Ytcolgghllacloaa.Tm
end

section
namespace Go.Proofs.Ytcolgghllacloaa.Tm
open Go.Rf (RowIn strs ints rep nodeT ownL blk Src IsLow IsUp)
open Go.RowKit Go.Proofs.Ytcolgghllacloaa.Q Go.Proofs.YtcolgghllacloaaW.PrintWords Go.Proofs.YtcolgghllacloaaW.PrintLast Go.Proofs.YtcolgghllacloaaW.PrintMore
section
variable {w w' : World} {N : Nat} {o : Oper} {L : List (Nat × Value)} {v u v2 : Value} {n m n2 : Nat} {l l2 : List Int}
theorem w_append {P : Program} {s x : Operand} {t e : TypeId} {i : TypeInfo} {z : Value} {xs news : List Value} (ho : o.op = .call { callee := .builtin .append, args := #[s, x], argTypes := #[t, t] }) (ht : P.underlying t = some (.slice e)) (hi : P.info? e = some i) (hz : i.zero = some z) (hzs : z.cells.size = i.size)
  (hs : ev L s = some v) (hown : ownL w e i.size v n xs) (hx : ev L x = some u) (hsrc : Src P w i.size u m news) (h63 : n + m ≤ maxLen) (hbytes : (n + m) * i.bytes ≤ 140737488355328) :
  WY P o L w fun v' w' => ownL w' e i.size v' (n + m) (xs ++ news) ∧ w.grownBy w' (blk v) ∧ (∀ b, blk v' = some b → blk v = some b ∨ w.heap.size ≤ b) := fun a k hT K Q hK => by
 obtain ⟨v', w', hr, h2, h3, h4, h5⟩ := Go.Rf.run_append_gen (P := P) (ty := o.type) ht ht (.inl ⟨_, rfl⟩) hi hz hzs hown hsrc h63 hbytes
 unfold Oper.wp execOp
 simp only [ho, resolve, invoke, builtin, Sem.run_bind, Sem.run_pure, Result.andThen_ok, List.map_toArray, List.map_cons, List.map_nil, hT.ev hs, hT.ev hx, hr]
 exact hK _ _ ⟨h2, h3, h4⟩
theorem n_ge {x y : Operand} {i j : Int} {w : World} : (do eqGuard .geq 3 x y (.int .i64 i) (.int .i64 j); binOp .geq 3 (.int .i64 i) (.int .i64 j) : Sem Value).run Try.prog w = .ok (.bool (decide (i ≥ j))) w := by simp [go_sem]
theorem n_subI {x y : Operand} {i : Int} {w : World} (h : -1000000 < i ∧ i < 1000000) : (do eqGuard .sub 3 x y (.int .i64 i) (.int .i64 1); binOp .sub 3 (.int .i64 i) (.int .i64 1) : Sem Value).run Try.prog w = .ok (.int .i64 (i - 1)) w := by
 have e : IntKind.i64.wrap (i - 1) = i - 1 := Go.Rf.wrap64 (by omega) (by omega)
 simp [go_sem, e]
theorem then_ret {K : Act → World → Prop} {Q : Exit → Act → World → Prop} {a : Act} {w : World} (h : Q .ret a w) : Exit.then K Q .ret a w := h
def selL (L : List (Nat × Value)) : List Nat → List (Nat × Value)
 | [] => []
 | k :: ks => match lk L k with
  | some v => (k, v) :: selL L ks
  | none => selL L ks
theorem lk_selL {L : List (Nat × Value)} : ∀ {ks : List Nat} {k : Nat} {v : Value}, lk (selL L ks) k = some v → lk L k = some v
 | [], _, _, h => by cases h
 | j :: ks, k, v, h => by
  unfold selL at h
  split at h
  ·rename_i u hu
   unfold lk at h
   cases e : Nat.beq j k with
   | true =>
    obtain rfl := Nat.eq_of_beq_eq_true e
    rw [e] at h
    exact hu.trans h
   | false =>
    rw [e] at h
    exact lk_selL h
  ·exact lk_selL h
theorem Tm.sel {a : Act} {k : Nat} {L : List (Nat × Value)} (h : Tm a k L) (ks : List Nat) : Tm a k (selL L ks) := ⟨h.size, h.dfr, fun j v hj => h.get j v (lk_selL hj)⟩
def Tm.keep {a : Act} {k : Nat} {L : List (Nat × Value)} (_ : Tm a k L) (ks : List Nat) (x : Act) : Prop := Tm x k (selL L ks)
def Env.at {w0 w : World} {B g : Nat} {Lb : List BD} {Rs : List RD} {S : List Sk} (_ : Env w0 B g Lb Rs S w) (S' : List Sk) (w' : World) : Prop := Env w0 B g Lb Rs S' w'
def Tm.keepP {a : Act} {k : Nat} {L : List (Nat × Value)} (_ : Tm a k L) (pre : List (Nat × Value)) (ks : List Nat) (x : Act) : Prop := Tm x k (pre ++ selL L ks)
def Env.atP {w0 w : World} {B g : Nat} {Lb : List BD} {Rs : List RD} {S : List Sk} (_ : Env w0 B g Lb Rs S w) (pre : List BD) (S' : List Sk) (w' : World) : Prop := Env w0 B g (pre ++ Lb) Rs S' w'
theorem Env.swap {w0 w : World} {B g : Nat} {x y : BD} {Lb : List BD} {Rs : List RD} {S : List Sk} (E : Env w0 B g (x :: y :: Lb) Rs S w) : Env w0 B g (y :: x :: Lb) Rs S w := by
 have hm : ∀ z, z ∈ y :: x :: Lb → z ∈ x :: y :: Lb := fun z hz => by
  rcases List.mem_cons.1 hz with rfl | hz
  ·simp
  ·rcases List.mem_cons.1 hz with rfl | hz
   ·simp
   ·simp [hz]
 refine ⟨E.hB, E.fr, fun z hz => E.bx z (hm z hz), fun z hz => E.ne z (hm z hz), ?_, E.rows, E.ts⟩
 have := E.nd
 simp only [List.map_cons, List.nodup_cons, List.mem_cons, not_or] at this ⊢
 exact ⟨⟨Ne.symm this.1.1, this.2.1⟩, this.1.2, this.2.2⟩
structure But (b : Nat) (w0 w : World) : Prop where
 size : w0.heap.size ≤ w.heap.size
 cell : ∀ a : Addr, a.block ≠ b → a.block < w0.heap.size → w.cell? a = w0.cell? a
theorem But.refl (b : Nat) (w : World) : But b w w := ⟨Nat.le_refl _, fun _ _ _ => rfl⟩
def Stored (b : Nat) (w w' : World) : Prop := w.heap.size ≤ w'.heap.size ∧ ∀ a : Addr, a.block ≠ b → w'.cell? a = w.cell? a
theorem But.store {b : Nat} {w0 w w' : World} (h : But b w0 w) (hk : Stored b w w') : But b w0 w' := ⟨Nat.le_trans h.size hk.1, fun a h1 h2 => (hk.2 a h1).trans (h.cell a h1 h2)⟩
theorem cb {b : Nat} {w0 : World} {a : Addr} {v : Value} (h : w0.cell? a = some v) (hne : a.block ≠ b) (w : World) (hb : But b w0 w) : w.cell? a = some v := (hb.cell a hne (World.block_lt_of_cell? w0 a h)).trans h
theorem Env.neb {w0 w : World} {B g : Nat} {Lb : List BD} {Rs : List RD} {S : List Sk} (E : Env w0 B g Lb Rs S w) {k k2 b b2 : Nat} {t t2 : TypeId} {cs cs2 : List Value} (hk : Lb[k]? = some (b, t, cs)) (hk2 : Lb[k2]? = some (b2, t2, cs2)) (hne : k ≠ k2) : b ≠ b2 := fun e => hne (nodup_at E.nd hk hk2 e)
theorem Env.ner {w0 w : World} {B g : Nat} {Lb : List BD} {Rs : List RD} {S : List Sk} (E : Env w0 B g Lb Rs S w) {k b b2 m c n : Nat} {t : TypeId} {cs : List Value} (hk : Lb[k]? = some (b, t, cs)) (h : (RD.s (.slice (some ⟨b2, 0, none⟩) m c) n).ok w B) : b2 ≠ b := fun e => by
 subst e
 obtain ⟨cr, h1, _⟩ := RD.scells h
 have h2 := E.bx _ (nth_mem hk)
 have := h1.symm.trans h2
 injection this with this
 injection this with _ e
 exact (E.ne _ (nth_mem hk)).2.2.1 e.symm
theorem e_st2k (k : Nat) {w0 w : World} {B g : Nat} {Lb : List BD} {Rs : List RD} {S : List Sk} (E : Env w0 B g Lb Rs S w) {o : Oper} {L : List (Nat × Value)} {x y : Operand} {b : Nat} {v0 v1 x0 x1 : Value} (ho : o.op = .store 30 x y) (hx : ev L x = some (.pointer (some ⟨b, 0, none⟩))) (hy : ev L y = some (.agg #[v0, v1])) (hk : Lb[k]? = some (b, 30, [x0, x1])) (h0 : v0.oneCell' = true) (h1 : v1.oneCell' = true) :
  WY Try.prog o L w fun _ W => Env w0 B g (Lb.set k (b, 30, [v0, v1])) Rs S W ∧ Stored b w W :=
 (w_store ho hx hy (s_tree (E.bx _ (nth_mem hk)) (by simp) h0 h1)).mono fun _ _ h => by
  subst h
  exact ⟨E.set2 hk v0 v1, by simp, fun a ha => World.cell?_of_block ((Below.heap_setCell _ _ _ _ ha).trans (Below.heap_setCell _ _ _ _ ha))⟩
def Grew (N : Nat) (w w' : World) (v v' : Value) : Prop := Below N w w' ∧ (∀ b, blk v' = some b → blk v = some b ∨ w.heap.size ≤ b) ∧ ∀ k, k < w.heap.size → blk v ≠ some k → w'.heap[k]? = w.heap[k]?
theorem grew_of {v' : Value} (hN : N ≤ w.heap.size) (hv : ∀ x, blk v = some x → N ≤ x) (hg : w.grownBy w' (blk v)) (hb : ∀ b, blk v' = some b → blk v = some b ∨ w.heap.size ≤ b) : Grew N w w' v v' :=
 ⟨Below.grown (Below.refl _ _) hg hN (fun k hk => hv k hk), hb, fun k hk hne => hg.block k hk (fun e => hne e.symm)⟩
theorem app_s {s x : Operand} (ho : o.op = .call { callee := .builtin .append, args := #[s, x], argTypes := #[62, 62] }) (hs : ev L s = some v) (hx : ev L x = some u) (hN : N ≤ w.heap.size) (h : (RD.s v n).ok w N) (hu : SS w u m) (hnm : n + m ≤ 1000) :
  WY Try.prog o L w fun v' w' => (RD.s v' (n + m)).ok w' N ∧ Grew N w w' v v' := by
 obtain ⟨i0, hi0, hz0, hz1, hz2⟩ := info_split info_str
 obtain ⟨X, rfl, hX⟩ := h
 obtain ⟨Y, rfl, hY⟩ := hu
 have hxl : (strs X).length = X.length := List.length_map _
 have hyl : (strs Y).length = Y.length := List.length_map _
 have hO := RowIn.own hX
 have hSr := hY.src (P := Try.prog)
 rw [hxl] at hO
 rw [hyl] at hSr
 refine (w_append (P := Try.prog) (i := i0) ho Try.underlying62 hi0 hz0 (by rw [hz1]; rfl) hs (by rw [hz1]; exact hO) hx (by rw [hz1]; exact hSr) (by unfold maxLen; omega) (by rw [hz2]; omega)).mono ?_
 rintro v' w' ⟨h1, h2, h3⟩
 have hv : ∀ x, blk v = some x → N ≤ x := fun x hx => (hX.blk hx).1
 rw [hz1] at h1
 have e : strs X ++ strs Y = strs (X ++ Y) := List.map_append.symm
 rw [e] at h1
 exact ⟨⟨X ++ Y, List.length_append, rowIn_of h1 (fun b hb => (h3 b hb).elim (fun e => hv b e) (fun e => Nat.le_trans hN e))⟩, grew_of hN hv h2 h3⟩
theorem app_i {s x : Operand} (ho : o.op = .call { callee := .builtin .append, args := #[s, x], argTypes := #[65, 65] }) (hs : ev L s = some v) (hx : ev L x = some u) (hN : N ≤ w.heap.size) (h : (RD.i v l).ok w N) (hu : SI w u l2) (hnm : l.length + l2.length ≤ 1000) :
  WY Try.prog o L w fun v' w' => (RD.i v' (l ++ l2)).ok w' N ∧ Grew N w w' v v' := by
 obtain ⟨i0, hi0, hz0, hz1, hz2⟩ := info_split info_int
 have hX : RowIn w N 3 v (ints l) := h
 have hxl : (ints l).length = l.length := List.length_map _
 have hyl : (ints l2).length = l2.length := List.length_map _
 have hO := RowIn.own hX
 have hSr := SlAt.src (P := Try.prog) hu
 rw [hxl] at hO
 rw [hyl] at hSr
 refine (w_append (P := Try.prog) (i := i0) ho Try.underlying65 hi0 hz0 (by rw [hz1]; rfl) hs (by rw [hz1]; exact hO) hx (by rw [hz1]; exact hSr) (by unfold maxLen; omega) (by rw [hz2]; omega)).mono ?_
 rintro v' w' ⟨h1, h2, h3⟩
 have hv : ∀ x, blk v = some x → N ≤ x := fun x hx => (hX.blk hx).1
 rw [hz1] at h1
 have e : ints l ++ ints l2 = ints (l ++ l2) := List.map_append.symm
 rw [e] at h1
 exact ⟨rowIn_of h1 (fun b hb => (h3 b hb).elim (fun e => hv b e) (fun e => Nat.le_trans hN e)), grew_of hN hv h2 h3⟩
theorem new_s (ho : o.op = .buildSlice 62 0 #[]) (hN : N ≤ w.heap.size) : WY Try.prog o L w fun v w' => (RD.s v 0).ok w' N ∧ blk v = some w.heap.size ∧ Below w.heap.size w w' := wy_value fun a n hT => by
 refine ⟨.slice (some ⟨w.heap.size, 0, none⟩) 0 0, w.alloc (.cells #[] 9), ?_, ⟨[], rfl, .inr ⟨w.heap.size, 0, #[], rfl, hN, CellsAt.new w _ _, Nat.le_refl _, by simp [maxLen], by simp, rfl⟩⟩, rfl, (Below.refl _ w).alloc (Nat.le_refl _) _⟩
 simp only [execOp, ho]
 simp [go_sem, Instr.buildSlice]
theorem new_i (ho : o.op = .buildSlice 65 0 #[]) (hN : N ≤ w.heap.size) : WY Try.prog o L w fun v w' => (RD.i v []).ok w' N ∧ blk v = some w.heap.size ∧ Below w.heap.size w w' := wy_value fun a n hT => by
 refine ⟨.slice (some ⟨w.heap.size, 0, none⟩) 0 0, w.alloc (.cells #[] 3), ?_, .inr ⟨w.heap.size, 0, #[], rfl, hN, CellsAt.new w _ _, Nat.le_refl _, by simp [maxLen], by simp, rfl⟩, rfl, (Below.refl _ w).alloc (Nat.le_refl _) _⟩
 simp only [execOp, ho]
 simp [go_sem, Instr.buildSlice]
theorem RD.wk {r : RD} {N' : Nat} (h : r.ok w N) (hN : N' ≤ N) : r.ok w N' := by
 cases r with
 | s v n => obtain ⟨l, h1, h2⟩ := h; exact ⟨l, h1, h2.weaken hN⟩
 | i v l => exact RowIn.weaken h hN
def Two (w : World) (N : Nat) (v : Value) (n : Nat) (v2 : Value) (n2 : Nat) : Prop := (RD.s v n).ok w N ∧ (RD.s v2 n2).ok w N ∧ ∀ x, blk v = some x → blk v2 ≠ some x
theorem Two.symm (h : Two w N v n v2 n2) : Two w N v2 n2 v n := ⟨h.2.1, h.1, fun x hx e => h.2.2 x e hx⟩
theorem RD.slt (h : (RD.s v n).ok w N) : ∀ x, blk v = some x → N ≤ x ∧ x < w.heap.size := fun x hx => by
 obtain ⟨l, _, h⟩ := h
 exact h.blk hx
theorem RD.keeps (h : (RD.s v n).ok w N) (hk : ∀ x, blk v = some x → w'.heap[x]? = w.heap[x]?) : (RD.s v n).ok w' N := by
 obtain ⟨l, h1, h⟩ := h
 exact ⟨l, h1, h.keep hk⟩
theorem Two.below (h : Two w N v n v2 n2) (m : Below w.heap.size w w') : Two w' N v n v2 n2 := ⟨RD.below (r := .s _ _) h.1 m, RD.below (r := .s _ _) h.2.1 m, h.2.2⟩
theorem two_new (ho : o.op = .buildSlice 62 0 #[]) (hN : N ≤ w.heap.size) (h : (RD.s v n).ok w N) : WY Try.prog o L w fun v2 w' => Two w' N v n v2 0 ∧ Below w.heap.size w w' :=
 (new_s ho hN).mono fun v2 w' ⟨h1, h2, h3⟩ => ⟨⟨RD.below (r := .s _ _) h h3, h1, fun x hx e => by rw [h2] at e; obtain rfl := Option.some.inj e; have := (RD.slt h _ hx).2; omega⟩, h3⟩
theorem two_app {s x : Operand} (ho : o.op = .call { callee := .builtin .append, args := #[s, x], argTypes := #[62, 62] }) (hs : ev L s = some v) (hx : ev L x = some u) (hN : N ≤ w.heap.size) (h : Two w N v n v2 n2) (hu : SS w u m) (hnm : n + m ≤ 1000) :
  WY Try.prog o L w fun v' w' => Two w' N v' (n + m) v2 n2 ∧ Below N w w' :=
 (app_s ho hs hx hN h.1 hu hnm).mono fun v' w' ⟨h1, h2, h3, h4⟩ => ⟨⟨h1, RD.keeps h.2.1 fun x hx => h4 x (RD.slt h.2.1 x hx).2 (fun e => h.2.2 x e hx), fun x hx e => (h3 x hx).elim (fun e2 => h.2.2 x e2 e) (fun e2 => by have := (RD.slt h.2.1 x e).2; omega)⟩, h2⟩
theorem nodeV_zero {B : Nat} : NodeV w B (.agg #[.bool false, .slice none 0 0, .slice none 0 0, .slice none 0 0]) zS := ⟨_, _, _, rfl, ⟨[], rfl, .inl ⟨rfl, rfl⟩⟩, ⟨[], rfl, .inl ⟨rfl, rfl⟩⟩, .inl ⟨rfl, rfl⟩⟩
theorem build_node : (Instr.build 72 #[]).run Try.prog w = .ok (.agg #[.bool false, .slice none 0 0, .slice none 0 0, .slice none 0 0]) w := by simp [go_sem, Instr.build, Instr.fill]
end
end Go.Proofs.Ytcolgghllacloaa.Tm
end

section
namespace Go.Proofs.Ytcolgghllacloaa.Tm
open Go.Rf (RowIn strs ints rep nodeT ownL blk Src IsLow IsUp)
open Go.RowKit Go.Proofs.Ytcolgghllacloaa.Q Go.Proofs.YtcolgghllacloaaW.PrintWords Go.Proofs.YtcolgghllacloaaW.PrintLast Go.Proofs.YtcolgghllacloaaW.PrintMore
def MergeR (lf : Bool) (aK bK : Nat) (aI bI : List Int) (na : Sk) : Prop :=
 (lf = true ∧ na = (true, aK + bK, aK + bK, [])) ∨ (lf = false ∧ na = (false, aK + 1 + bK, 0, aI ++ bI))
def MergePost (w : World) (B g c : Nat) (root : Int) (S : List Sk) (at' a b k K : Nat) (kids : List Int) (R : Sk → Prop) : Value → World → Prop := fun v w' =>
 v = tv root g S.length c ∧ ∃ na, TS w' B g (((S.set a na).set b zS).set at' (false, K - 1, 0, kids.eraseIdx (k + 1))) ∧ Fr B g w w' ∧ R na
set_option maxRecDepth 100000 in
set_option maxHeartbeats 4000000 in
theorem merge_any (wz : World) (B g c : Nat) (root : Int) (S : List Sk) (at' k a b K V aK bK aV bV : Nat) (lf : Bool) (kids aI bI : List Int) (hB : B ≤ wz.heap.size) (hS0 : TS wz B g S) (hl : S.length = 19) (hc : S.length ≤ c) (hat : S[at']? = some (false, K, V, kids)) (hK : kids.length = K + 1) (hK4 : K ≤ 4)
  (hka : kids[k]? = some (a : Int)) (hkb : kids[k + 1]? = some (b : Int)) (hoa : S[a]? = some (lf, aK, aV, aI)) (hob : S[b]? = some (lf, bK, bV, bI)) (h4a : aK ≤ 4) (h4b : bK ≤ 4) (hab : a ≠ b) (haat : at' ≠ a) (hbat : at' ≠ b)
  (hlf : lf = true → aV = aK ∧ bV = bK) (hin : lf = false → aI.length = aK + 1 ∧ bI.length = bK + 1) :
  Calls Try.prog 100 #[tv root g S.length c, .int .i64 (at' : Int), .int .i64 (k : Int)] wz (Ans (MergePost wz B g c root S at' a b k K kids (MergeR lf aK bK aI bI))) := by
 have hlt := (List.getElem?_eq_some_iff.1 hat).1
 have hla := (List.getElem?_eq_some_iff.1 hoa).1
 have hlb := (List.getElem?_eq_some_iff.1 hob).1
 have hk1 := (List.getElem?_eq_some_iff.1 hkb).1
 have E := Env.start hB hS0
 obtain ⟨K', rfl⟩ : ∃ K', K = K' + 1 := ⟨K - 1, by omega⟩
 refine enter (args := [tv root g S.length c, .int .i64 (at' : Int), .int .i64 (k : Int)]) Try.func100 rfl Try.ntmps100 rfl ?_
 intro x hT
 refine wp_seq ?_
 refine wp_region_lit ?_
 refine L_w hT rfl rfl rfl (e_box E rfl rfl) ?_
 rintro _ w ⟨b3, rfl, E, m⟩ x hT
 refine L_w hT rfl rfl rfl (e_tree E rfl) ?_
 rintro _ w ⟨b6, rfl, E, m⟩ x hT
 refine wpList_nil ?_
 show Code.wp _ _ _ _ _
 refine wp_seq ?_
 obtain ⟨uA, uc, uA2, uc2, uA3, uc3, q0, q1, q2, q3, E⟩ := E.readf hat
 refine wp_region_lit ?_
 refine lq hT (q_field rfl rfl fT rfl) fun x hT => ?_
 refine lq hT (q_load rfl rfl (l_sn (by exact E.cell (k := 1) rfl rfl))) fun x hT => ?_
 refine lq hT (q_move rfl rfl) fun x hT => ?_
 refine lq hT (q_index rfl rfl rfl (i_node (by omega))) fun x hT => ?_
 refine lq hT (q_load rfl rfl (l_node q0 q1 q2 q3)) fun x hT => ?_
 refine L_w hT rfl rfl rfl (e_node E rfl) ?_
 rintro _ w ⟨b7, rfl, E, m⟩ x hT
 refine L_s hT rfl rfl (e_st4 0 E rfl rfl rfl rfl rfl rfl rfl rfl) ?_
 rintro _ w E
 refine wpList_nil ?_
 clear q0 q1 q2 q3
 show Code.wp _ _ _ _ _
 refine wp_seq ?_
 obtain ⟨kb, rfl, hkc⟩ := RD.iblk (E.row (k := 2) rfl) (by omega)
 obtain ⟨sb, rfl, hsc⟩ := RD.sblk (E.row (k := 0) rfl) (by omega)
 have i1 := RD.iat ((E.below (below_drew w)).row (k := 2) rfl) hka
 obtain ⟨aA, ac, aA2, ac2, aA3, ac3, q0, q1, q2, q3, E⟩ := E.readf hoa
 have q0 := ck q0 _ (below_drew w)
 have q1 := ck q1 _ (below_drew w)
 have q2 := ck q2 _ (below_drew w)
 have q3 := ck q3 _ (below_drew w)
 refine wp_region_M (n := 11) (Below w.drew.heap.size w.drew) [0, 1, 2, 3, 4, 5, 6, 7, 8, 9] [] (by kernel_rfl) rfl ?_
 have hS := Below.refl w.drew.heap.size w.drew
 have E0 := E.below (below_drew w)
 have E := E0
 refine mq 0 [1, 7, 8, 10] hT hS rfl (fun w' hw => q_field rfl rfl fT rfl) fun x hT => ?_
 refine mq 1 [7, 8, 10] hT hS rfl (fun w' hw => q_load rfl rfl (l_sn (ck (by exact E0.cell (k := 2) rfl rfl) w' hw))) fun x hT => ?_
 refine mq 2 [3, 5, 6, 7, 8, 10] hT hS rfl (fun w' hw => q_field rfl rfl fN rfl) fun x hT => ?_
 refine mq 3 [5, 6, 7, 8, 10] hT hS rfl (fun w' hw => q_load rfl rfl (l_si (ck (by exact E0.cell (k := 0) rfl rfl) w' hw))) fun x hT => ?_
 refine mq 4 [5, 6, 7, 8, 10] hT hS rfl (fun w' hw => q_move rfl rfl) fun x hT => ?_
 refine mq 5 [6, 7, 8, 10] hT hS rfl (fun w' hw => q_index rfl rfl rfl (i_int (by omega))) fun x hT => ?_
 refine mq 6 [7, 8, 10] hT hS rfl (fun w' hw => q_load rfl rfl (l_int (ck i1 w' hw))) fun x hT => ?_
 refine mq 7 [8, 10] hT hS rfl (fun w' hw => q_index rfl rfl rfl (i_node (by omega))) fun x hT => ?_
 refine mq 8 [10] hT hS rfl (fun w' hw => q_load rfl rfl (l_node (ck q0 w' hw) (ck q1 w' hw) (ck q2 w' hw) (ck q3 w' hw))) fun x hT => ?_
 refine M_one 9 (by kernel_rfl) ?_
 refine at_w hT rfl rfl rfl rfl (e_node E rfl) ?_
 rintro _ w ⟨b8, rfl, E, m⟩ x hT
 have hS := hS.trans (m.mono hS.size)
 refine ⟨fun _ _ => hS, ?_⟩
 refine M_one 10 (by kernel_rfl) ?_
 refine at_s hT rfl rfl rfl (e_st4 0 E rfl rfl rfl rfl rfl rfl rfl rfl) ?_
 rintro _ w E
 refine ⟨fun h => absurd h (by decide), ?_⟩
 refine M_end (by kernel_rfl) ?_
 clear q0 q1 q2 q3 i1
 show Code.wp _ _ _ _ _
 refine wp_seq ?_
 have i1 := RD.iat ((E.below (below_drew w)).row (k := 5) rfl) hkb
 obtain ⟨bA, bc, bA2, bc2, bA3, bc3, q0, q1, q2, q3, E⟩ := E.readf hob
 have q0 := ck q0 _ (below_drew w)
 have q1 := ck q1 _ (below_drew w)
 have q2 := ck q2 _ (below_drew w)
 have q3 := ck q3 _ (below_drew w)
 refine wp_region_M (n := 12) (Below w.drew.heap.size w.drew) [0, 1, 2, 3, 4, 5, 6, 7, 8, 9, 10] [] (by kernel_rfl) rfl ?_
 have hS := Below.refl w.drew.heap.size w.drew
 have E0 := E.below (below_drew w)
 have E := E0
 refine mq 0 [1, 8, 9, 11] hT hS rfl (fun w' hw => q_field rfl rfl fT rfl) fun x hT => ?_
 refine mq 1 [8, 9, 11] hT hS rfl (fun w' hw => q_load rfl rfl (l_sn (ck (by exact E0.cell (k := 3) rfl rfl) w' hw))) fun x hT => ?_
 refine mq 2 [3, 6, 7, 8, 9, 11] hT hS rfl (fun w' hw => q_field rfl rfl fN rfl) fun x hT => ?_
 refine mq 3 [6, 7, 8, 9, 11] hT hS rfl (fun w' hw => q_load rfl rfl (l_si (ck (by exact E0.cell (k := 1) rfl rfl) w' hw))) fun x hT => ?_
 refine mq 4 [5, 6, 7, 8, 9, 11] hT hS rfl (fun w' hw => q_move rfl rfl) fun x hT => ?_
 refine mq 5 [6, 7, 8, 9, 11] hT hS rfl (fun w' hw => q_bin rfl rfl rfl (n_add (by omega))) fun x hT => ?_
 refine mq 6 [7, 8, 9, 11] hT hS rfl (fun w' hw => q_index rfl rfl rfl (i_int (by omega))) fun x hT => ?_
 refine mq 7 [8, 9, 11] hT hS rfl (fun w' hw => q_load rfl rfl (l_int (ck i1 w' hw))) fun x hT => ?_
 refine mq 8 [9, 11] hT hS rfl (fun w' hw => q_index rfl rfl rfl (i_node (by omega))) fun x hT => ?_
 refine mq 9 [11] hT hS rfl (fun w' hw => q_load rfl rfl (l_node (ck q0 w' hw) (ck q1 w' hw) (ck q2 w' hw) (ck q3 w' hw))) fun x hT => ?_
 refine M_one 10 (by kernel_rfl) ?_
 refine at_w hT rfl rfl rfl rfl (e_node E rfl) ?_
 rintro _ w ⟨b9, rfl, E, m⟩ x hT
 have hS := hS.trans (m.mono hS.size)
 refine ⟨fun _ _ => hS, ?_⟩
 refine M_one 11 (by kernel_rfl) ?_
 refine at_s hT rfl rfl rfl (e_st4 0 E rfl rfl rfl rfl rfl rfl rfl rfl) ?_
 rintro _ w E
 refine ⟨fun h => absurd h (by decide), ?_⟩
 refine M_end (by kernel_rfl) ?_
 clear q0 q1 q2 q3 i1
 show Code.wp _ _ _ _ _
 refine wp_seq ?_
 refine wp_seq ?_
 refine wp_region_lit ?_
 refine lq hT (q_field rfl rfl fN rfl) fun x hT => ?_
 refine lq hT (q_load rfl rfl (l_bool (by exact E.cell (k := 1) rfl rfl))) fun x hT => ?_
 refine wpList_nil ?_
 show Code.wp _ _ _ _ _
 cases lf with
 | true =>
  obtain ⟨rfl, rfl⟩ := hlf rfl
  refine wp_cond_true (hT.ev rfl) ?_
  have i1 := RD.iat ((E.below (below_drew w)).row (k := 8) rfl) hka
  refine wp_cut (fun x w => hT.keep [1, 2, 3, 6, 7, 8, 9] x ∧ E.at (S.set a (true, 0 + aV + bV, 0 + aV + bV, [])) w) ?_ ?_
  ·refine wp_region_M (n := 24) (Below w.drew.heap.size w.drew) [0, 1, 2, 3, 4, 5, 6, 7, 8, 9, 10, 11, 12, 13, 14, 15, 16, 17, 18, 19, 20, 21, 22] [] (by kernel_rfl) rfl ?_
   have hS := Below.refl w.drew.heap.size w.drew
   have E0 := E.below (below_drew w)
   have E := E0
   refine mQ 0 [1, 22, 23] hT hS rfl (fun w' hw => q_field rfl rfl fT rfl) fun x hT => ?_
   refine mQ 1 [22, 23] hT hS rfl (fun w' hw => q_load rfl rfl (l_sn (ck (by exact E0.cell (k := 4) rfl rfl) w' hw))) fun x hT => ?_
   refine mQ 2 [3, 5, 6, 22, 23] hT hS rfl (fun w' hw => q_field rfl rfl fN rfl) fun x hT => ?_
   refine mQ 3 [5, 6, 22, 23] hT hS rfl (fun w' hw => q_load rfl rfl (l_si (ck (by exact E0.cell (k := 2) rfl rfl) w' hw))) fun x hT => ?_
   refine mQ 4 [5, 6, 22, 23] hT hS rfl (fun w' hw => q_move rfl rfl) fun x hT => ?_
   refine mQ 5 [6, 22, 23] hT hS rfl (fun w' hw => q_index rfl rfl rfl (i_int (by omega))) fun x hT => ?_
   refine mQ 6 [22, 23] hT hS rfl (fun w' hw => q_load rfl rfl (l_int (ck i1 w' hw))) fun x hT => ?_
   refine mQ 8 [9, 10, 13, 17, 20, 21, 22, 23] hT hS rfl (fun w' hw => q_field rfl rfl fN rfl) fun x hT => ?_
   refine mQ 9 [10, 13, 17, 20, 21, 22, 23] hT hS rfl (fun w' hw => q_load rfl rfl (l_ss (ck (by exact E0.cell (k := 1) rfl rfl) w' hw))) fun x hT => ?_
   refine mQ 11 [12, 13, 17, 20, 21, 22, 23] hT hS rfl (fun w' hw => q_field rfl rfl fN rfl) fun x hT => ?_
   refine mQ 12 [13, 17, 20, 21, 22, 23] hT hS rfl (fun w' hw => q_load rfl rfl (l_ss (ck (by exact E0.cell (k := 0) rfl rfl) w' hw))) fun x hT => ?_
   refine mQ 15 [16, 17, 20, 21, 22, 23] hT hS rfl (fun w' hw => q_field rfl rfl fN rfl) fun x hT => ?_
   refine mQ 16 [17, 20, 21, 22, 23] hT hS rfl (fun w' hw => q_load rfl rfl (l_ss (ck (by exact E0.cell (k := 1) rfl rfl) w' hw))) fun x hT => ?_
   refine mQ 18 [19, 20, 21, 22, 23] hT hS rfl (fun w' hw => q_field rfl rfl fN rfl) fun x hT => ?_
   refine mQ 19 [20, 21, 22, 23] hT hS rfl (fun w' hw => q_load rfl rfl (l_ss (ck (by exact E0.cell (k := 0) rfl rfl) w' hw))) fun x hT => ?_
   refine M_two 7 14 (by kernel_rfl) ?_ ?_
   ·refine at_w hT rfl rfl rfl rfl (new_s rfl hS.size) ?_
    rintro _ w ⟨c1, _, m⟩ x hT
    have hS := hS.trans (m.mono hS.size)
    have E := E0.below hS
    refine ⟨fun _ _ => hS, ?_⟩
    refine M_two 10 14 (by kernel_rfl) ?_ ?_
    ·refine at_w hT rfl rfl rfl rfl (app_s rfl rfl rfl hS.size c1 (RD.ss (E.row (k := 3) rfl)) (by omega)) ?_
     rintro _ w ⟨c1, m⟩ x hT
     have hS := hS.trans m.1
     have E := E0.below hS
     refine ⟨fun _ _ => hS, ?_⟩
     refine M_two 13 14 (by kernel_rfl) ?_ ?_
     ·refine at_w hT rfl rfl rfl rfl (app_s rfl rfl rfl hS.size c1 (RD.ss (E.row (k := 0) rfl)) (by omega)) ?_
      rintro _ w ⟨c1, m⟩ x hT
      have hS := hS.trans m.1
      have E := E0.below hS
      refine ⟨fun _ _ => hS, ?_⟩
      refine M_one 14 (by kernel_rfl) ?_
      refine at_w hT rfl rfl rfl rfl (two_new rfl hS.size c1) ?_
      rintro _ w ⟨t, m⟩ x hT
      have hS := hS.trans (m.mono hS.size)
      have E := E0.below hS
      refine ⟨fun _ _ => hS, ?_⟩
      refine M_one 17 (by kernel_rfl) ?_
      refine at_w hT rfl rfl rfl rfl (two_app rfl rfl rfl hS.size t.symm (RD.ss (E.row (k := 4) rfl)) (by omega)) ?_
      rintro _ w ⟨t, m⟩ x hT
      have hS := hS.trans m
      have E := E0.below hS
      refine ⟨fun _ _ => hS, ?_⟩
      refine M_one 20 (by kernel_rfl) ?_
      refine at_w hT rfl rfl rfl rfl (two_app rfl rfl rfl hS.size t (RD.ss (E.row (k := 1) rfl)) (by omega)) ?_
      rintro _ w ⟨t, m⟩ x hT
      have hS := hS.trans m
      have E := E0.below hS
      refine ⟨fun _ _ => hS, ?_⟩
      refine M_one 21 (by kernel_rfl) ?_
      refine at_w hT rfl rfl rfl rfl (w_callN rfl rfl (by kernel_rfl) (args := [_, _]) rfl (c_leafOf E.hBw (RD.ss t.2.1) (RD.ss t.1) (by omega) (by omega))) ?_
      rintro _ w ⟨r3, m⟩ x hT
      have hS := hS.trans (m.mono hS.size)
      have E := E.below m
      refine ⟨fun _ _ => hS, ?_⟩
      refine mQ 22 [23] hT hS rfl (fun w' hw => q_index rfl rfl rfl (i_node (by omega))) fun x hT => ?_
      refine M_one 23 (by kernel_rfl) ?_
      refine at_s hT rfl rfl rfl (e_stN E rfl rfl rfl r3 hla) ?_
      rintro _ w E
      refine ⟨fun h => absurd h (by decide), ?_⟩
      refine M_end (by kernel_rfl) ?_
      exact ⟨rfl, hT.sel [1, 2, 3, 6, 7, 8, 9], E⟩
     ·refine at_w hT rfl rfl rfl rfl (two_new rfl hS.size c1) ?_
      rintro _ w ⟨t, m⟩ x hT
      have hS := hS.trans (m.mono hS.size)
      have E := E0.below hS
      refine ⟨fun _ _ => hS, ?_⟩
      refine M_one 13 (by kernel_rfl) ?_
      refine at_w hT rfl rfl rfl rfl (two_app rfl rfl rfl hS.size t (RD.ss (E.row (k := 0) rfl)) (by omega)) ?_
      rintro _ w ⟨t, m⟩ x hT
      have hS := hS.trans m
      have E := E0.below hS
      refine ⟨fun _ _ => hS, ?_⟩
      refine M_one 17 (by kernel_rfl) ?_
      refine at_w hT rfl rfl rfl rfl (two_app rfl rfl rfl hS.size t.symm (RD.ss (E.row (k := 4) rfl)) (by omega)) ?_
      rintro _ w ⟨t, m⟩ x hT
      have hS := hS.trans m
      have E := E0.below hS
      refine ⟨fun _ _ => hS, ?_⟩
      refine M_one 20 (by kernel_rfl) ?_
      refine at_w hT rfl rfl rfl rfl (two_app rfl rfl rfl hS.size t (RD.ss (E.row (k := 1) rfl)) (by omega)) ?_
      rintro _ w ⟨t, m⟩ x hT
      have hS := hS.trans m
      have E := E0.below hS
      refine ⟨fun _ _ => hS, ?_⟩
      refine M_one 21 (by kernel_rfl) ?_
      refine at_w hT rfl rfl rfl rfl (w_callN rfl rfl (by kernel_rfl) (args := [_, _]) rfl (c_leafOf E.hBw (RD.ss t.2.1) (RD.ss t.1) (by omega) (by omega))) ?_
      rintro _ w ⟨r3, m⟩ x hT
      have hS := hS.trans (m.mono hS.size)
      have E := E.below m
      refine ⟨fun _ _ => hS, ?_⟩
      refine mQ 22 [23] hT hS rfl (fun w' hw => q_index rfl rfl rfl (i_node (by omega))) fun x hT => ?_
      refine M_one 23 (by kernel_rfl) ?_
      refine at_s hT rfl rfl rfl (e_stN E rfl rfl rfl r3 hla) ?_
      rintro _ w E
      refine ⟨fun h => absurd h (by decide), ?_⟩
      refine M_end (by kernel_rfl) ?_
      exact ⟨rfl, hT.sel [1, 2, 3, 6, 7, 8, 9], E⟩
    ·refine at_w hT rfl rfl rfl rfl (two_new rfl hS.size c1) ?_
     rintro _ w ⟨t, m⟩ x hT
     have hS := hS.trans (m.mono hS.size)
     have E := E0.below hS
     refine ⟨fun _ _ => hS, ?_⟩
     refine M_one 10 (by kernel_rfl) ?_
     refine at_w hT rfl rfl rfl rfl (two_app rfl rfl rfl hS.size t (RD.ss (E.row (k := 3) rfl)) (by omega)) ?_
     rintro _ w ⟨t, m⟩ x hT
     have hS := hS.trans m
     have E := E0.below hS
     refine ⟨fun _ _ => hS, ?_⟩
     refine M_one 13 (by kernel_rfl) ?_
     refine at_w hT rfl rfl rfl rfl (two_app rfl rfl rfl hS.size t (RD.ss (E.row (k := 0) rfl)) (by omega)) ?_
     rintro _ w ⟨t, m⟩ x hT
     have hS := hS.trans m
     have E := E0.below hS
     refine ⟨fun _ _ => hS, ?_⟩
     refine M_one 17 (by kernel_rfl) ?_
     refine at_w hT rfl rfl rfl rfl (two_app rfl rfl rfl hS.size t.symm (RD.ss (E.row (k := 4) rfl)) (by omega)) ?_
     rintro _ w ⟨t, m⟩ x hT
     have hS := hS.trans m
     have E := E0.below hS
     refine ⟨fun _ _ => hS, ?_⟩
     refine M_one 20 (by kernel_rfl) ?_
     refine at_w hT rfl rfl rfl rfl (two_app rfl rfl rfl hS.size t (RD.ss (E.row (k := 1) rfl)) (by omega)) ?_
     rintro _ w ⟨t, m⟩ x hT
     have hS := hS.trans m
     have E := E0.below hS
     refine ⟨fun _ _ => hS, ?_⟩
     refine M_one 21 (by kernel_rfl) ?_
     refine at_w hT rfl rfl rfl rfl (w_callN rfl rfl (by kernel_rfl) (args := [_, _]) rfl (c_leafOf E.hBw (RD.ss t.2.1) (RD.ss t.1) (by omega) (by omega))) ?_
     rintro _ w ⟨r3, m⟩ x hT
     have hS := hS.trans (m.mono hS.size)
     have E := E.below m
     refine ⟨fun _ _ => hS, ?_⟩
     refine mQ 22 [23] hT hS rfl (fun w' hw => q_index rfl rfl rfl (i_node (by omega))) fun x hT => ?_
     refine M_one 23 (by kernel_rfl) ?_
     refine at_s hT rfl rfl rfl (e_stN E rfl rfl rfl r3 hla) ?_
     rintro _ w E
     refine ⟨fun h => absurd h (by decide), ?_⟩
     refine M_end (by kernel_rfl) ?_
     exact ⟨rfl, hT.sel [1, 2, 3, 6, 7, 8, 9], E⟩
   ·refine at_w hT rfl rfl rfl rfl (new_s rfl hS.size) ?_
    rintro _ w ⟨c2, _, m⟩ x hT
    have hS := hS.trans (m.mono hS.size)
    have E := E0.below hS
    refine ⟨fun _ _ => hS, ?_⟩
    refine M_one 7 (by kernel_rfl) ?_
    refine at_w hT rfl rfl rfl rfl (two_new rfl hS.size c2) ?_
    rintro _ w ⟨t, m⟩ x hT
    have hS := hS.trans (m.mono hS.size)
    have E := E0.below hS
    have t := t.symm
    refine ⟨fun _ _ => hS, ?_⟩
    refine M_one 10 (by kernel_rfl) ?_
    refine at_w hT rfl rfl rfl rfl (two_app rfl rfl rfl hS.size t (RD.ss (E.row (k := 3) rfl)) (by omega)) ?_
    rintro _ w ⟨t, m⟩ x hT
    have hS := hS.trans m
    have E := E0.below hS
    refine ⟨fun _ _ => hS, ?_⟩
    refine M_one 13 (by kernel_rfl) ?_
    refine at_w hT rfl rfl rfl rfl (two_app rfl rfl rfl hS.size t (RD.ss (E.row (k := 0) rfl)) (by omega)) ?_
    rintro _ w ⟨t, m⟩ x hT
    have hS := hS.trans m
    have E := E0.below hS
    refine ⟨fun _ _ => hS, ?_⟩
    refine M_one 17 (by kernel_rfl) ?_
    refine at_w hT rfl rfl rfl rfl (two_app rfl rfl rfl hS.size t.symm (RD.ss (E.row (k := 4) rfl)) (by omega)) ?_
    rintro _ w ⟨t, m⟩ x hT
    have hS := hS.trans m
    have E := E0.below hS
    refine ⟨fun _ _ => hS, ?_⟩
    refine M_one 20 (by kernel_rfl) ?_
    refine at_w hT rfl rfl rfl rfl (two_app rfl rfl rfl hS.size t (RD.ss (E.row (k := 1) rfl)) (by omega)) ?_
    rintro _ w ⟨t, m⟩ x hT
    have hS := hS.trans m
    have E := E0.below hS
    refine ⟨fun _ _ => hS, ?_⟩
    refine M_one 21 (by kernel_rfl) ?_
    refine at_w hT rfl rfl rfl rfl (w_callN rfl rfl (by kernel_rfl) (args := [_, _]) rfl (c_leafOf E.hBw (RD.ss t.2.1) (RD.ss t.1) (by omega) (by omega))) ?_
    rintro _ w ⟨r3, m⟩ x hT
    have hS := hS.trans (m.mono hS.size)
    have E := E.below m
    refine ⟨fun _ _ => hS, ?_⟩
    refine mQ 22 [23] hT hS rfl (fun w' hw => q_index rfl rfl rfl (i_node (by omega))) fun x hT => ?_
    refine M_one 23 (by kernel_rfl) ?_
    refine at_s hT rfl rfl rfl (e_stN E rfl rfl rfl r3 hla) ?_
    rintro _ w E
    refine ⟨fun h => absurd h (by decide), ?_⟩
    refine M_end (by kernel_rfl) ?_
    exact ⟨rfl, hT.sel [1, 2, 3, 6, 7, 8, 9], E⟩
  rintro x w ⟨hT, E⟩
  unfold Tm.keep at hT
  unfold Env.at at E
  clear i1
  rw [Nat.zero_add] at E
  show Code.wp _ _ _ _ _
  refine wp_seq ?_
  have i1 := RD.iat ((E.below (below_drew w)).row (k := 8) rfl) hkb
  refine wp_region_M (n := 11) (Below w.drew.heap.size w.drew) [0, 1, 2, 3, 4, 5, 6, 7, 8, 9] [] (by kernel_rfl) rfl ?_
  have hS := Below.refl w.drew.heap.size w.drew
  have E0 := E.below (below_drew w)
  have E := E0
  refine mq 0 [1, 9, 10] hT hS rfl (fun w' hw => q_field rfl rfl fT rfl) fun x hT => ?_
  refine mq 1 [9, 10] hT hS rfl (fun w' hw => q_load rfl rfl (l_sn (ck (by exact E0.cell (k := 4) rfl rfl) w' hw))) fun x hT => ?_
  refine mq 2 [3, 6, 7, 9, 10] hT hS rfl (fun w' hw => q_field rfl rfl fN rfl) fun x hT => ?_
  refine mq 3 [6, 7, 9, 10] hT hS rfl (fun w' hw => q_load rfl rfl (l_si (ck (by exact E0.cell (k := 2) rfl rfl) w' hw))) fun x hT => ?_
  refine mq 4 [5, 6, 7, 9, 10] hT hS rfl (fun w' hw => q_move rfl rfl) fun x hT => ?_
  refine mq 5 [6, 7, 9, 10] hT hS rfl (fun w' hw => q_bin rfl rfl rfl (n_add (by omega))) fun x hT => ?_
  refine mq 6 [7, 9, 10] hT hS rfl (fun w' hw => q_index rfl rfl rfl (i_int (by omega))) fun x hT => ?_
  refine mq 7 [9, 10] hT hS rfl (fun w' hw => q_load rfl rfl (l_int (ck i1 w' hw))) fun x hT => ?_
  refine mq 8 [9, 10] hT hS rfl (fun w' hw => q_build0 rfl build_node) fun x hT => ?_
  refine mq 9 [10] hT hS rfl (fun w' hw => q_index rfl rfl rfl (i_node (by omega))) fun x hT => ?_
  refine M_one 10 (by kernel_rfl) ?_
  refine at_s hT rfl rfl rfl (e_stN E rfl rfl rfl nodeV_zero (by rw [List.length_set]; exact hlb)) ?_
  rintro _ w E
  refine ⟨fun h => absurd h (by decide), ?_⟩
  refine M_end (by kernel_rfl) ?_
  show Code.wp _ _ _ _ _
  refine wp_seq ?_
  refine wp_region_M (n := 15) (Below w.drew.heap.size w.drew) [0, 1, 2, 3, 4, 5, 6, 7, 8, 9, 10, 11, 12, 13] [] (by kernel_rfl) rfl ?_
  have hS := Below.refl w.drew.heap.size w.drew
  have E0 := E.below (below_drew w)
  have E := E0
  refine mq 0 [1, 13, 14] hT hS rfl (fun w' hw => q_field rfl rfl fT rfl) fun x hT => ?_
  refine mq 1 [13, 14] hT hS rfl (fun w' hw => q_load rfl rfl (l_sn (ck (by exact E0.cell (k := 4) rfl rfl) w' hw))) fun x hT => ?_
  refine mq 2 [13, 14] hT hS rfl (fun w' hw => q_move rfl rfl) fun x hT => ?_
  refine mq 3 [4, 6, 11, 12, 13, 14] hT hS rfl (fun w' hw => q_field rfl rfl fN rfl) fun x hT => ?_
  refine mq 4 [6, 11, 12, 13, 14] hT hS rfl (fun w' hw => q_load rfl rfl (l_ss (ck (by exact E0.cell (k := 2) rfl rfl) w' hw))) fun x hT => ?_
  refine mq 5 [6, 11, 12, 13, 14] hT hS rfl (fun w' hw => q_move rfl rfl) fun x hT => ?_
  refine mq 7 [8, 11, 12, 13, 14] hT hS rfl (fun w' hw => q_field rfl rfl fN rfl) fun x hT => ?_
  refine mq 8 [11, 12, 13, 14] hT hS rfl (fun w' hw => q_load rfl rfl (l_si (ck (by exact E0.cell (k := 2) rfl rfl) w' hw))) fun x hT => ?_
  refine mq 9 [10, 11, 12, 13, 14] hT hS rfl (fun w' hw => q_move rfl rfl) fun x hT => ?_
  refine mq 10 [11, 12, 13, 14] hT hS rfl (fun w' hw => q_bin rfl rfl rfl (n_add (by omega))) fun x hT => ?_
  refine M_one 6 (by kernel_rfl) ?_
  refine at_w hT rfl rfl rfl rfl (w_callN rfl rfl (by kernel_rfl) (args := [_, _]) rfl (c_out E.hBw (E.row (k := 6) rfl) (by omega) (by omega))) ?_
  rintro _ w ⟨r1, m⟩ x hT
  have hS := hS.trans (m.mono hS.size)
  have E := E.below m
  refine ⟨fun _ _ => hS, ?_⟩
  refine M_one 11 (by kernel_rfl) ?_
  refine at_w hT rfl rfl rfl rfl (w_callN rfl rfl (by kernel_rfl) (args := [_, _]) rfl (c_outNum E.hBw (E.row (k := 8) rfl) (by omega) (by omega))) ?_
  rintro _ w ⟨r2, m⟩ x hT
  have hS := hS.trans (m.mono hS.size)
  have E := E.below m
  have r1 := RD.below (r := .s _ _) r1 m
  refine ⟨fun _ _ => hS, ?_⟩
  refine M_one 12 (by kernel_rfl) ?_
  refine at_w hT rfl rfl rfl rfl (w_callN rfl rfl (by kernel_rfl) (args := [_, _]) rfl (c_innerOf E.hBw (RD.ss r1) (RD.si r2) (by omega) (by rw [List.length_eraseIdx_of_lt (by omega)]; omega))) ?_
  rintro _ w ⟨r3, m⟩ x hT
  have hS := hS.trans (m.mono hS.size)
  have E := E.below m
  refine ⟨fun _ _ => hS, ?_⟩
  refine mq 13 [14] hT hS rfl (fun w' hw => q_index rfl rfl rfl (i_node (by omega))) fun x hT => ?_
  refine M_one 14 (by kernel_rfl) ?_
  refine at_s hT rfl rfl rfl (e_stN E rfl rfl rfl r3 (by rw [List.length_set, List.length_set]; exact hlt)) ?_
  rintro _ w E
  refine ⟨fun h => absurd h (by decide), ?_⟩
  refine M_end (by kernel_rfl) ?_
  show Code.wp _ _ _ _ _
  refine wp_seq ?_
  refine wp_region_lit ?_
  refine lq hT (q_load rfl rfl (l_tree (by exact E.cell (k := 4) rfl rfl) (by exact E.cell (k := 4) rfl rfl))) fun x hT => ?_
  refine L_s hT rfl rfl (e_st2 3 E rfl rfl rfl rfl rfl rfl) ?_
  rintro _ w E
  refine wpList_nil ?_
  show Code.wp _ _ _ _ _
  refine wp_ret ?_
  show bodyPost _ _ _ _ _ _
  refine ret_t hT rfl rfl (E.bx _ (nth_mem (k := 3) rfl)) ?_
  exact ⟨_, rfl, rfl, _, E.ts, E.fr, .inl ⟨rfl, rfl⟩⟩
 | false =>
  obtain ⟨hia, hib⟩ := hin rfl
  refine wp_cond_false (hT.ev rfl) ?_
  refine wp_seq ?_
  obtain ⟨s1, hs1⟩ := RD.sat ((E.below (below_drew w)).row (k := 6) rfl) (j := k) (by omega)
  refine wp_region_M (n := 15) (Below w.drew.heap.size w.drew) [0, 1, 2, 3, 4, 5, 6, 7, 8, 9, 10, 11, 12, 13, 14] [] (by kernel_rfl) rfl ?_
  have hS := Below.refl w.drew.heap.size w.drew
  have E0 := E.below (below_drew w)
  have E := E0
  refine mq 0 [1, 10, 13, 14] hT hS rfl (fun w' hw => q_field rfl rfl fN rfl) fun x hT => ?_
  refine mq 1 [10, 13, 14] hT hS rfl (fun w' hw => q_load rfl rfl (l_ss (ck (by exact E0.cell (k := 1) rfl rfl) w' hw))) fun x hT => ?_
  refine mq 2 [3, 4, 10, 13, 14] hT hS rfl (fun w' hw => q_field rfl rfl fN rfl) fun x hT => ?_
  refine mq 3 [4, 10, 13, 14] hT hS rfl (fun w' hw => q_load rfl rfl (l_ss (ck (by exact E0.cell (k := 1) rfl rfl) w' hw))) fun x hT => ?_
  refine mq 4 [10, 13, 14] hT hS rfl (fun w' hw => q_len rfl Try.underlying62 rfl) fun x hT => ?_
  refine mq 5 [6, 8, 9, 10, 13, 14] hT hS rfl (fun w' hw => q_field rfl rfl fN rfl) fun x hT => ?_
  refine mq 6 [8, 9, 10, 13, 14] hT hS rfl (fun w' hw => q_load rfl rfl (l_ss (ck (by exact E0.cell (k := 2) rfl rfl) w' hw))) fun x hT => ?_
  refine mq 7 [8, 9, 10, 13, 14] hT hS rfl (fun w' hw => q_move rfl rfl) fun x hT => ?_
  refine mq 8 [9, 10, 13, 14] hT hS rfl (fun w' hw => q_index rfl rfl rfl (i_str (by omega))) fun x hT => ?_
  refine mq 9 [10, 13, 14] hT hS rfl (fun w' hw => q_load rfl rfl (l_str (ck hs1 w' hw))) fun x hT => ?_
  refine mq 11 [12, 13, 14] hT hS rfl (fun w' hw => q_field rfl rfl fN rfl) fun x hT => ?_
  refine mq 12 [13, 14] hT hS rfl (fun w' hw => q_load rfl rfl (l_ss (ck (by exact E0.cell (k := 0) rfl rfl) w' hw))) fun x hT => ?_
  refine M_one 10 (by kernel_rfl) ?_
  refine at_w hT rfl rfl rfl rfl (w_callN rfl rfl (by kernel_rfl) (args := [_, _, _]) rfl (c_in (Nat.le_refl _) (RD.ss (E.row (k := 3) rfl)) (by omega) (Nat.le_refl _))) ?_
  rintro _ w ⟨r1, m⟩ x hT
  have hN := hS.size
  have hS := hS.trans (m.mono hS.size)
  have E := E0.below hS
  have r1 := RD.wk (r := .s _ _) r1 hN
  refine ⟨fun _ _ => hS, ?_⟩
  refine M_one 13 (by kernel_rfl) ?_
  refine at_w hT rfl rfl rfl rfl (app_s rfl rfl rfl hS.size r1 (RD.ss (E.row (k := 0) rfl)) (by omega)) ?_
  rintro _ w ⟨r1, m⟩ x hT
  have hS := hS.trans m.1
  have E := E0.below hS
  refine ⟨fun _ _ => hS, ?_⟩
  refine mq 14 [] hT hS rfl (fun w' hw => q_assign rfl rfl) fun x hT => ?_
  refine M_end (by kernel_rfl) ?_
  have E := E.add (RD.wk (r := .s _ _) r1 E0.hBw)
  clear r1 hs1
  show Code.wp _ _ _ _ _
  have i1 := RD.iat ((E.below (below_drew w)).row (k := 9) rfl) hka
  refine wp_region_M (n := 18) (Below w.drew.heap.size w.drew) [0, 1, 2, 3, 4, 5, 6, 7, 8, 9, 10, 11, 12, 13, 14, 15, 16] [] (by kernel_rfl) rfl ?_
  have hS := Below.refl w.drew.heap.size w.drew
  have E0 := E.below (below_drew w)
  have E := E0
  refine mq 0 [1, 16, 17] hT hS rfl (fun w' hw => q_field rfl rfl fT rfl) fun x hT => ?_
  refine mq 1 [16, 17] hT hS rfl (fun w' hw => q_load rfl rfl (l_sn (ck (by exact E0.cell (k := 4) rfl rfl) w' hw))) fun x hT => ?_
  refine mq 2 [3, 5, 6, 16, 17] hT hS rfl (fun w' hw => q_field rfl rfl fN rfl) fun x hT => ?_
  refine mq 3 [5, 6, 16, 17] hT hS rfl (fun w' hw => q_load rfl rfl (l_si (ck (by exact E0.cell (k := 2) rfl rfl) w' hw))) fun x hT => ?_
  refine mq 4 [5, 6, 16, 17] hT hS rfl (fun w' hw => q_move rfl rfl) fun x hT => ?_
  refine mq 5 [6, 16, 17] hT hS rfl (fun w' hw => q_index rfl rfl rfl (i_int (by omega))) fun x hT => ?_
  refine mq 6 [16, 17] hT hS rfl (fun w' hw => q_load rfl rfl (l_int (ck i1 w' hw))) fun x hT => ?_
  refine mq 7 [15, 16, 17] hT hS rfl (fun w' hw => q_move rfl rfl) fun x hT => ?_
  refine mq 9 [10, 11, 14, 15, 16, 17] hT hS rfl (fun w' hw => q_field rfl rfl fN rfl) fun x hT => ?_
  refine mq 10 [11, 14, 15, 16, 17] hT hS rfl (fun w' hw => q_load rfl rfl (l_si (ck (by exact E0.cell (k := 1) rfl rfl) w' hw))) fun x hT => ?_
  refine mq 12 [13, 14, 15, 16, 17] hT hS rfl (fun w' hw => q_field rfl rfl fN rfl) fun x hT => ?_
  refine mq 13 [14, 15, 16, 17] hT hS rfl (fun w' hw => q_load rfl rfl (l_si (ck (by exact E0.cell (k := 0) rfl rfl) w' hw))) fun x hT => ?_
  refine M_one 8 (by kernel_rfl) ?_
  refine at_w hT rfl rfl rfl rfl (new_i rfl hS.size) ?_
  rintro _ w ⟨c1, _, m⟩ x hT
  have hS := hS.trans (m.mono hS.size)
  have E := E0.below hS
  refine ⟨fun _ _ => hS, ?_⟩
  refine M_one 11 (by kernel_rfl) ?_
  refine at_w hT rfl rfl rfl rfl (app_i rfl rfl rfl hS.size c1 (RD.si (E.row (k := 6) rfl)) (by simp; omega)) ?_
  rintro _ w ⟨c1, m⟩ x hT
  have hS := hS.trans m.1
  have E := E0.below hS
  refine ⟨fun _ _ => hS, ?_⟩
  refine M_one 14 (by kernel_rfl) ?_
  refine at_w hT rfl rfl rfl rfl (app_i rfl rfl rfl hS.size c1 (RD.si (E.row (k := 3) rfl)) (by simp; omega)) ?_
  rintro _ w ⟨c1, m⟩ x hT
  have hS := hS.trans m.1
  have E := E0.below hS
  refine ⟨fun _ _ => hS, ?_⟩
  refine M_one 15 (by kernel_rfl) ?_
  refine at_w hT rfl rfl rfl rfl (w_callN rfl rfl (by kernel_rfl) (args := [_, _]) rfl (c_innerOf E.hBw (RD.ss (E.row (k := 0) rfl)) (RD.si c1) (by omega) (by simp; omega))) ?_
  rintro _ w ⟨r3, m⟩ x hT
  have hS := hS.trans (m.mono hS.size)
  have E := E.below m
  refine ⟨fun _ _ => hS, ?_⟩
  refine mq 16 [17] hT hS rfl (fun w' hw => q_index rfl rfl rfl (i_node (by omega))) fun x hT => ?_
  refine M_one 17 (by kernel_rfl) ?_
  refine at_s hT rfl rfl rfl (e_stN E rfl rfl rfl r3 hla) ?_
  rintro _ w E
  refine ⟨fun h => absurd h (by decide), ?_⟩
  refine M_end (by kernel_rfl) ?_
  clear i1
  show Code.wp _ _ _ _ _
  refine wp_seq ?_
  have i1 := RD.iat ((E.below (below_drew w)).row (k := 9) rfl) hkb
  refine wp_region_M (n := 11) (Below w.drew.heap.size w.drew) [0, 1, 2, 3, 4, 5, 6, 7, 8, 9] [] (by kernel_rfl) rfl ?_
  have hS := Below.refl w.drew.heap.size w.drew
  have E0 := E.below (below_drew w)
  have E := E0
  refine mq 0 [1, 9, 10] hT hS rfl (fun w' hw => q_field rfl rfl fT rfl) fun x hT => ?_
  refine mq 1 [9, 10] hT hS rfl (fun w' hw => q_load rfl rfl (l_sn (ck (by exact E0.cell (k := 4) rfl rfl) w' hw))) fun x hT => ?_
  refine mq 2 [3, 6, 7, 9, 10] hT hS rfl (fun w' hw => q_field rfl rfl fN rfl) fun x hT => ?_
  refine mq 3 [6, 7, 9, 10] hT hS rfl (fun w' hw => q_load rfl rfl (l_si (ck (by exact E0.cell (k := 2) rfl rfl) w' hw))) fun x hT => ?_
  refine mq 4 [5, 6, 7, 9, 10] hT hS rfl (fun w' hw => q_move rfl rfl) fun x hT => ?_
  refine mq 5 [6, 7, 9, 10] hT hS rfl (fun w' hw => q_bin rfl rfl rfl (n_add (by omega))) fun x hT => ?_
  refine mq 6 [7, 9, 10] hT hS rfl (fun w' hw => q_index rfl rfl rfl (i_int (by omega))) fun x hT => ?_
  refine mq 7 [9, 10] hT hS rfl (fun w' hw => q_load rfl rfl (l_int (ck i1 w' hw))) fun x hT => ?_
  refine mq 8 [9, 10] hT hS rfl (fun w' hw => q_build0 rfl build_node) fun x hT => ?_
  refine mq 9 [10] hT hS rfl (fun w' hw => q_index rfl rfl rfl (i_node (by omega))) fun x hT => ?_
  refine M_one 10 (by kernel_rfl) ?_
  refine at_s hT rfl rfl rfl (e_stN E rfl rfl rfl nodeV_zero (by rw [List.length_set]; exact hlb)) ?_
  rintro _ w E
  refine ⟨fun h => absurd h (by decide), ?_⟩
  refine M_end (by kernel_rfl) ?_
  show Code.wp _ _ _ _ _
  refine wp_seq ?_
  refine wp_region_M (n := 15) (Below w.drew.heap.size w.drew) [0, 1, 2, 3, 4, 5, 6, 7, 8, 9, 10, 11, 12, 13] [] (by kernel_rfl) rfl ?_
  have hS := Below.refl w.drew.heap.size w.drew
  have E0 := E.below (below_drew w)
  have E := E0
  refine mq 0 [1, 13, 14] hT hS rfl (fun w' hw => q_field rfl rfl fT rfl) fun x hT => ?_
  refine mq 1 [13, 14] hT hS rfl (fun w' hw => q_load rfl rfl (l_sn (ck (by exact E0.cell (k := 4) rfl rfl) w' hw))) fun x hT => ?_
  refine mq 2 [13, 14] hT hS rfl (fun w' hw => q_move rfl rfl) fun x hT => ?_
  refine mq 3 [4, 6, 11, 12, 13, 14] hT hS rfl (fun w' hw => q_field rfl rfl fN rfl) fun x hT => ?_
  refine mq 4 [6, 11, 12, 13, 14] hT hS rfl (fun w' hw => q_load rfl rfl (l_ss (ck (by exact E0.cell (k := 2) rfl rfl) w' hw))) fun x hT => ?_
  refine mq 5 [6, 11, 12, 13, 14] hT hS rfl (fun w' hw => q_move rfl rfl) fun x hT => ?_
  refine mq 7 [8, 11, 12, 13, 14] hT hS rfl (fun w' hw => q_field rfl rfl fN rfl) fun x hT => ?_
  refine mq 8 [11, 12, 13, 14] hT hS rfl (fun w' hw => q_load rfl rfl (l_si (ck (by exact E0.cell (k := 2) rfl rfl) w' hw))) fun x hT => ?_
  refine mq 9 [10, 11, 12, 13, 14] hT hS rfl (fun w' hw => q_move rfl rfl) fun x hT => ?_
  refine mq 10 [11, 12, 13, 14] hT hS rfl (fun w' hw => q_bin rfl rfl rfl (n_add (by omega))) fun x hT => ?_
  refine M_one 6 (by kernel_rfl) ?_
  refine at_w hT rfl rfl rfl rfl (w_callN rfl rfl (by kernel_rfl) (args := [_, _]) rfl (c_out E.hBw (E.row (k := 7) rfl) (by omega) (by omega))) ?_
  rintro _ w ⟨r1, m⟩ x hT
  have hS := hS.trans (m.mono hS.size)
  have E := E.below m
  refine ⟨fun _ _ => hS, ?_⟩
  refine M_one 11 (by kernel_rfl) ?_
  refine at_w hT rfl rfl rfl rfl (w_callN rfl rfl (by kernel_rfl) (args := [_, _]) rfl (c_outNum E.hBw (E.row (k := 9) rfl) (by omega) (by omega))) ?_
  rintro _ w ⟨r2, m⟩ x hT
  have hS := hS.trans (m.mono hS.size)
  have E := E.below m
  have r1 := RD.below (r := .s _ _) r1 m
  refine ⟨fun _ _ => hS, ?_⟩
  refine M_one 12 (by kernel_rfl) ?_
  refine at_w hT rfl rfl rfl rfl (w_callN rfl rfl (by kernel_rfl) (args := [_, _]) rfl (c_innerOf E.hBw (RD.ss r1) (RD.si r2) (by omega) (by rw [List.length_eraseIdx_of_lt (by omega)]; omega))) ?_
  rintro _ w ⟨r3, m⟩ x hT
  have hS := hS.trans (m.mono hS.size)
  have E := E.below m
  refine ⟨fun _ _ => hS, ?_⟩
  refine mq 13 [14] hT hS rfl (fun w' hw => q_index rfl rfl rfl (i_node (by omega))) fun x hT => ?_
  refine M_one 14 (by kernel_rfl) ?_
  refine at_s hT rfl rfl rfl (e_stN E rfl rfl rfl r3 (by rw [List.length_set, List.length_set]; exact hlt)) ?_
  rintro _ w E
  refine ⟨fun h => absurd h (by decide), ?_⟩
  refine M_end (by kernel_rfl) ?_
  show Code.wp _ _ _ _ _
  refine wp_seq ?_
  refine wp_region_lit ?_
  refine lq hT (q_load rfl rfl (l_tree (by exact E.cell (k := 4) rfl rfl) (by exact E.cell (k := 4) rfl rfl))) fun x hT => ?_
  refine L_s hT rfl rfl (e_st2 3 E rfl rfl rfl rfl rfl rfl) ?_
  rintro _ w E
  refine wpList_nil ?_
  show Code.wp _ _ _ _ _
  refine wp_ret ?_
  show bodyPost _ _ _ _ _ _
  refine ret_t hT rfl rfl (E.bx _ (nth_mem (k := 3) rfl)) ?_
  exact ⟨_, rfl, rfl, _, E.ts, E.fr, .inr ⟨rfl, rfl⟩⟩
end Go.Proofs.Ytcolgghllacloaa.Tm
end

section
namespace Go.Proofs.Ytcolgghllacloaa.Tm
open Go.RowKit Go.Proofs.Ytcolgghllacloaa.Q Go.Proofs.YtcolgghllacloaaW.PrintWords Go.Proofs.YtcolgghllacloaaW.PrintLast Go.Proofs.YtcolgghllacloaaW.PrintMore
def DropR (S : List Sk) (lv : Nat → Nat) (rt at' : Nat) (S' : List Sk) : Prop :=
 WF S' lv rt (x1 at') ∧ (∀ i, lv at' < lv i → S'[i]? = S[i]?) ∧ ∃ s, S'[at']? = some s ∧ s ≠ zS
section
variable {S : List Sk} {lv : Nat → Nat} {rt j : Nat}
theorem WF.shape {x : Nat → Nat} (h : WF S lv rt x) {a : Nat} {s : Sk} (hs : S[a]? = some s) (hz : s ≠ zS) : ∃ lf aK aV aI, s = (lf, aK, aV, aI) ∧ (lf = true → aV = aK ∧ aI = [] ∧ lv a = 0) ∧ (lf = false → aV = 0 ∧ aI.length = aK + 1 ∧ 0 < lv a) := by
 obtain ⟨lf, aK, aV, aI⟩ := s
 exact ⟨lf, aK, aV, aI, rfl, fun e => h.leaf a _ hs e, fun e => h.inner a _ hs e hz⟩
theorem WF.at_kid {x : Nat → Nat} (h : WF S lv rt x) {at' i K V : Nat} {kids : List Int} (hat : S[at']? = some (false, K, V, kids)) {q : Int} (hq : kids[i]? = some q) : ∃ a : Nat, q = (a : Int) ∧ a ≠ rt ∧ (∃ s, S[a]? = some s ∧ s ≠ zS) ∧ lv a + 1 = lv at' := h.kid at' _ hat q (List.mem_of_getElem? hq)
theorem kid_ne {x : Nat → Nat} (h : WF S lv rt x) {at' i i2 K V a b : Nat} {kids : List Int} (hat : S[at']? = some (false, K, V, kids)) (ha : kids[i]? = some (a : Int)) (hb : kids[i2]? = some (b : Int)) (hi : i ≠ i2) : a ≠ b := fun e => by
 subst e
 exact hi (h.inj at' at' i i2 _ _ _ hat hat ha hb).2
theorem lend_drop (h : WF S lv rt (x1 j)) {at' a K V aK jK aV jV : Nat} {kids aI jI : List Int} {lf : Bool} (hat : S[at']? = some (false, K, V, kids)) (hz : ((false, K, V, kids) : Sk) ≠ zS) (hla : lv a + 1 = lv at') (hlj : lv j + 1 = lv at') (haj : a ≠ j) (hoa : S[a]? = some (lf, aK, aV, aI)) (hoj : S[j]? = some (lf, jK, jV, jI))
  (hza : ((lf, aK, aV, aI) : Sk) ≠ zS) (hzj : ((lf, jK, jV, jI) : Sk) ≠ zS) (h2 : 2 < aK) (hj2 : jK < 2) (hj1 : 1 ≤ jK) {nj na : Sk} {q : Int} {naI njI : List Int}
  (hn : (lf = true ∧ nj = (true, jK + 1, jK + 1, []) ∧ na = (true, aK - 1, aK - 1, [])) ∨ (lf = false ∧ q ∈ aI ∧ naI.Sublist aI ∧ q ∉ naI ∧ naI.length = aK ∧ (∀ k, k ∈ njI → k ∈ jI ∨ k = q) ∧ njI.length = jK + 2 ∧ njI.Nodup ∧ nj = (false, jK + 1, 0, njI) ∧ na = (false, aK - 1, 0, naI))) : DropR S lv rt at' ((S.set j nj).set a na) := by
 have h4a := h.four a _ hoa
 simp only at h4a
 have hw : WF ((S.set a na).set j nj) lv rt x0 := by
  rcases hn with ⟨rfl, rfl, rfl⟩ | ⟨rfl, hq, hs, hqn, hnl, hm, hjl, hnd, rfl, rfl⟩
  ·exact h.lend hoa hoj haj hza hzj (by omega) rfl rfl (fun _ => ⟨rfl, rfl⟩) (fun e => by cases e) (fun _ => ⟨rfl, rfl⟩) (fun e => by cases e) (by simp only; omega) (by simp only; omega) (by simp only; omega) (by simp only; omega) (fun k hk => by cases hk) List.nodup_nil (fun k hk => by cases hk) List.nodup_nil
  ·have hna : aI.Nodup := h.nodup hoa
   exact h.lend hoa hoj haj hza hzj (by omega) rfl rfl (fun e => by cases e) (fun _ => ⟨rfl, by simp only; omega⟩) (fun e => by cases e) (fun _ => ⟨rfl, by simp only; omega⟩) (by simp only; omega) (by simp only; omega) (by simp only; omega) (by simp only; omega) (fun k hk => hs.subset hk) (hna.sublist hs) (fun k hk => (hm k hk).imp id (fun e => by subst e; exact ⟨hq, hqn⟩)) hnd
 rw [List.set_comm _ _ haj.symm]
 refine ⟨hw.mono (fun i => Nat.zero_le _), fun i hi => ?_, _, ?_, hz⟩
 ·rw [set_ne (by intro e; subst e; omega), set_ne (by intro e; subst e; omega)]
 ·rw [set_ne (by intro e; subst e; omega), set_ne (by intro e; subst e; omega)]
  exact hat
theorem lendL_drop (h : WF S lv rt (x1 j)) {at' a K V aK jK aV jV : Nat} {kids aI jI : List Int} {lf : Bool} (hat : S[at']? = some (false, K, V, kids)) (hz : ((false, K, V, kids) : Sk) ≠ zS) (hla : lv a + 1 = lv at') (hlj : lv j + 1 = lv at') (haj : a ≠ j) (hoa : S[a]? = some (lf, aK, aV, aI)) (hoj : S[j]? = some (lf, jK, jV, jI))
  (hza : ((lf, aK, aV, aI) : Sk) ≠ zS) (hzj : ((lf, jK, jV, jI) : Sk) ≠ zS) (h2 : 2 < aK) (hj2 : jK < 2) (hj1 : 1 ≤ jK) (hin : lf = false → aI.length = aK + 1 ∧ jI.length = jK + 1) {nj na : Sk} (hn : LendLR lf aK jK aI jI nj na) : DropR S lv rt at' ((S.set j nj).set a na) := by
 rcases hn with ⟨rfl, hn⟩ | ⟨rfl, q, hq, rfl, rfl⟩
 ·exact lend_drop h hat hz hla hlj haj hoa hoj hza hzj h2 hj2 hj1 (q := 0) (naI := []) (njI := []) (.inl ⟨rfl, hn⟩)
 ·obtain ⟨e1, e2⟩ := hin rfl
  have hna : aI.Nodup := h.nodup hoa
  have hnj : jI.Nodup := h.nodup hoj
  have hlt := (List.getElem?_eq_some_iff.1 hq).1
  refine lend_drop h hat hz hla hlj haj hoa hoj hza hzj h2 hj2 hj1 (q := q) (naI := aI.take aK) (njI := q :: jI) (.inr ⟨rfl, List.mem_of_getElem? hq, List.take_sublist _ _, fun hm => ?_, by rw [List.length_take]; omega, fun k hk => ?_, by rw [List.length_cons, e2], ?_, rfl, rfl⟩)
  ·obtain ⟨d, hd⟩ := List.getElem?_of_mem hm
   have hdl := (List.getElem?_eq_some_iff.1 hd).1
   rw [List.length_take] at hdl
   rw [List.getElem?_take_of_lt (by omega)] at hd
   have := nodup_self hna d aK q hd hq
   omega
  ·rcases List.mem_cons.1 hk with rfl | hk
   ·exact .inr rfl
   ·exact .inl hk
  ·refine List.nodup_cons.2 ⟨fun hm => ?_, hnj⟩
   obtain ⟨d, hd⟩ := List.getElem?_of_mem hm
   exact haj (h.inj a j aK d _ _ q hoa hoj hq hd).1
theorem lendR_drop (h : WF S lv rt (x1 j)) {at' a K V aK jK aV jV : Nat} {kids aI jI : List Int} {lf : Bool} (hat : S[at']? = some (false, K, V, kids)) (hz : ((false, K, V, kids) : Sk) ≠ zS) (hla : lv a + 1 = lv at') (hlj : lv j + 1 = lv at') (haj : a ≠ j) (hoa : S[a]? = some (lf, aK, aV, aI)) (hoj : S[j]? = some (lf, jK, jV, jI))
  (hza : ((lf, aK, aV, aI) : Sk) ≠ zS) (hzj : ((lf, jK, jV, jI) : Sk) ≠ zS) (h2 : 2 < aK) (hj2 : jK < 2) (hj1 : 1 ≤ jK) (hin : lf = false → aI.length = aK + 1 ∧ jI.length = jK + 1) {nj na : Sk} (hn : LendRR lf aK jK aI jI nj na) : DropR S lv rt at' ((S.set j nj).set a na) := by
 rcases hn with ⟨rfl, hn⟩ | ⟨rfl, q, hq, rfl, rfl⟩
 ·exact lend_drop h hat hz hla hlj haj hoa hoj hza hzj h2 hj2 hj1 (q := 0) (naI := []) (njI := []) (.inl ⟨rfl, hn⟩)
 ·obtain ⟨e1, e2⟩ := hin rfl
  have hna : aI.Nodup := h.nodup hoa
  have hnj : jI.Nodup := h.nodup hoj
  have hlt := (List.getElem?_eq_some_iff.1 hq).1
  refine lend_drop h hat hz hla hlj haj hoa hoj hza hzj h2 hj2 hj1 (q := q) (naI := aI.drop 1) (njI := jI ++ [q]) (.inr ⟨rfl, List.mem_of_getElem? hq, List.drop_sublist _ _, fun hm => ?_, by rw [List.length_drop]; omega, fun k hk => ?_, by rw [List.length_append, e2]; rfl, ?_, rfl, rfl⟩)
  ·obtain ⟨d, hd⟩ := List.getElem?_of_mem hm
   rw [List.getElem?_drop] at hd
   have := nodup_self hna (1 + d) 0 q hd hq
   omega
  ·rcases List.mem_append.1 hk with hk | hk
   ·exact .inl hk
   ·exact .inr (List.mem_singleton.1 hk)
  ·refine List.nodup_append.2 ⟨hnj, List.nodup_cons.2 ⟨by simp, List.nodup_nil⟩, fun x hx y hy e => ?_⟩
   obtain rfl := List.mem_singleton.1 hy
   subst e
   obtain ⟨d, hd⟩ := List.getElem?_of_mem hx
   exact haj (h.inj a j 0 d _ _ _ hoa hoj hq hd).1
theorem merge_drop (h : WF S lv rt (x1 j)) {at' a b k K V aK bK aV bV : Nat} {kids aI bI : List Int} {lf : Bool} (hj : j = a ∨ j = b) (hat : S[at']? = some (false, K, V, kids)) (hK : 0 < K) (hkl : kids.length = K + 1) (hka : kids[k]? = some (a : Int)) (hkb : kids[k + 1]? = some (b : Int)) (hla : lv a + 1 = lv at') (hlb : lv b + 1 = lv at') (hoa : S[a]? = some (lf, aK, aV, aI)) (hob : S[b]? = some (lf, bK, bV, bI))
  (hza : ((lf, aK, aV, aI) : Sk) ≠ zS) (hlow : 2 ≤ aK + bK) (h4 : aK + bK ≤ 3) (hin : lf = false → aI.length = aK + 1 ∧ bI.length = bK + 1) {na : Sk} (hn : MergeR lf aK bK aI bI na) :
  DropR S lv rt at' (((S.set a na).set b zS).set at' (false, K - 1, 0, kids.eraseIdx (k + 1))) := by
 have hab : a ≠ b := kid_ne h hat hka hkb (by omega)
 have hk1 := (List.getElem?_eq_some_iff.1 hkb).1
 have hnk : kids.Nodup := h.nodup hat
 have haat : at' ≠ a := fun e => by subst e; omega
 have hbat : at' ≠ b := fun e => by subst e; omega
 have hlt := (List.getElem?_eq_some_iff.1 hat).1
 have hlen : (kids.eraseIdx (k + 1)).length = K := by rw [List.length_eraseIdx_of_lt hk1, hkl]; rfl
 have hbn : (b : Int) ∉ kids.eraseIdx (k + 1) := fun hm => by
  obtain ⟨d, hd⟩ := List.getElem?_of_mem hm
  rw [List.getElem?_eraseIdx] at hd
  split at hd
  ·have := nodup_self hnk d (k + 1) _ hd hkb; omega
  ·have := nodup_self hnk (d + 1) (k + 1) _ hd hkb; omega
 have hw : WF (((S.set at' (false, K - 1, 0, kids.eraseIdx (k + 1))).set b zS).set a na) lv rt (x1 at') := by
  have base := fun (na : Sk) => h.merge (na := na) (kids' := kids.eraseIdx (k + 1)) hj hat hK hoa hob hza (List.mem_of_getElem? hka) (List.mem_of_getElem? hkb) hab hlen (hnk.sublist (List.eraseIdx_sublist _ _)) (fun q hq => (List.eraseIdx_sublist _ _).subset hq) hbn
  rcases hn with ⟨rfl, rfl⟩ | ⟨rfl, rfl⟩
  ·exact base _ rfl (fun _ => ⟨rfl, rfl⟩) (fun e => by cases e) (by simp only; omega) (by simp only; omega) (fun k hk => by cases hk) List.nodup_nil
  ·obtain ⟨e1, e2⟩ := hin rfl
   refine base _ rfl (fun e => by cases e) (fun _ => ⟨rfl, by simp only [List.length_append]; omega⟩) (by simp only; omega) (by simp only; omega) (fun k hk => List.mem_append.1 hk) ?_
   refine List.nodup_append.2 ⟨h.nodup hoa, h.nodup hob, fun x hx y hy e => ?_⟩
   subst e
   obtain ⟨d, hd⟩ := List.getElem?_of_mem hx
   obtain ⟨d2, hd2⟩ := List.getElem?_of_mem hy
   exact hab (h.inj a b d d2 _ _ _ hoa hob hd hd2).1
 have e : ((S.set a na).set b zS).set at' (false, K - 1, 0, kids.eraseIdx (k + 1)) = ((S.set at' (false, K - 1, 0, kids.eraseIdx (k + 1))).set b zS).set a na := by
  rw [List.set_comm _ _ hab, List.set_comm _ _ haat.symm, List.set_comm _ _ hbat.symm]
 rw [e]
 refine ⟨hw, fun i hi => ?_, (false, K - 1, 0, kids.eraseIdx (k + 1)), ?_, ?_⟩
 ·rw [set_ne (by intro e; subst e; omega), set_ne (by intro e; subst e; omega), set_ne (by intro e; subst e; omega)]
 ·rw [set_ne haat.symm, set_ne hbat.symm, set_eq hlt]
 ·intro e
  injection e with _ e; injection e with _ e; injection e with _ e
  rw [e] at hlen
  simp at hlen
  omega
end
end Go.Proofs.Ytcolgghllacloaa.Tm
end

section
namespace Go.Proofs.Ytcolgghllacloaa.Tm
open Go.Rf (RowIn strs ints rep nodeT ownL blk Src IsLow IsUp)
open Go.RowKit Go.Proofs.Ytcolgghllacloaa.Q Go.Proofs.YtcolgghllacloaaW.PrintWords Go.Proofs.YtcolgghllacloaaW.PrintLast Go.Proofs.YtcolgghllacloaaW.PrintMore
def manyS (S : List Sk) (kids : List Int) (i : Int) : Nat := if 0 ≤ i ∧ i < kids.length then (S.getD (kids.getD i.toNat 0).toNat zS).2.1 else 0
theorem manyS_at {S : List Sk} {kids : List Int} {k a : Nat} {s : Sk} (hk : kids[k]? = some (a : Int)) (hs : S[a]? = some s) : manyS S kids (k : Int) = s.2.1 := by
 unfold manyS
 have hlt := (List.getElem?_eq_some_iff.1 hk).1
 rw [if_pos ⟨by omega, by omega⟩]
 simp only [Int.toNat_natCast, List.getD_eq_getElem?_getD, hk, hs, Option.getD_some]
theorem c_many {w : World} {B g c : Nat} {root : Int} {S : List Sk} {at' : Nat} {i : Int} {lf : Bool} {K V : Nat} {kids : List Int} (h : TS w B g S) (hc : S.length ≤ c) (hat : S[at']? = some (lf, K, V, kids)) (hk : kids.length ≤ 1000) (hr : ∀ x ∈ kids, 0 ≤ x ∧ x < S.length) :
  Calls Try.prog 97 #[tv root g S.length c, .int .i64 (at' : Int), .int .i64 i] w (Ans fun u w' => u = .int .i64 (manyS S kids i : Int) ∧ Below w.heap.size w w') := by
 obtain ⟨N, h1, rfl⟩ := h
 rw [List.getElem?_map] at hat
 obtain ⟨n, hn, e⟩ := Option.map_eq_some_iff.1 hat
 have ek : n.2.2.2.1 = kids := by have := congrArg (fun s : Sk => s.2.2.2) e; exact this
 rw [List.length_map] at hr hc ⊢
 refine (Go.Proofs.Ytcolgghllacloaa.R.ask_many (i := i) (h1.rep hc) hn (by rw [ek]; omega) (by rw [ek]; exact hr)).mono ?_
 rintro e w' ⟨rfl, m⟩
 refine ⟨_, rfl, ?_, m⟩
 rw [ek]
 congr 2
 unfold Go.Proofs.Ytcolgghllacloaa.R.manyOf manyS
 split
 ·generalize (kids.getD i.toNat 0).toNat = q
  rw [List.getD_eq_getElem?_getD, List.getD_eq_getElem?_getD, List.getElem?_map]
  cases N[q]? with
  | none => rfl
  | some x => rfl
 ·rfl
def DropPost (w : World) (B g c : Nat) (root : Int) (S : List Sk) (lv : Nat → Nat) (rt at' : Nat) : Value → World → Prop := fun v w' =>
 v = tv root g S.length c ∧ ∃ S', TS w' B g S' ∧ Fr B g w w' ∧ DropR S lv rt at' S'
set_option maxRecDepth 100000 in
set_option maxHeartbeats 4000000 in
theorem mend_any (wz : World) (B g c : Nat) (root : Int) (S : List Sk) (lv : Nat → Nat) (rt at' i j K V : Nat) (kids : List Int) (hB : B ≤ wz.heap.size) (hS0 : TS wz B g S) (hc : S.length ≤ c) (hw : WF S lv rt (x1 j)) (hat : S[at']? = some (false, K, V, kids)) (hz : ((false, K, V, kids) : Sk) ≠ zS) (hij : kids[i]? = some (j : Int)) :
  Calls Try.prog 91 #[tv root g S.length c, .int .i64 (at' : Int), .int .i64 (i : Int)] wz (Ans (DropPost wz B g c root S lv rt at')) := by
 have hl := hw.len
 have hlt := (List.getElem?_eq_some_iff.1 hat).1
 have hil := (List.getElem?_eq_some_iff.1 hij).1
 obtain ⟨hV0, hkl, hlv0⟩ := hw.inner at' _ hat rfl hz
 simp only at hV0 hkl
 obtain ⟨j', ej, hjr, ⟨oj, hoj, hzj⟩, hlj⟩ := hw.at_kid hat hij
 obtain rfl : j = j' := by omega
 have hatj : at' ≠ j := fun e => by subst e; omega
 have hK1 : 1 ≤ K := by
  have := (hw.min at' _ hat hz).2 rfl
  simp only [x1, if_neg hatj] at this
  exact this
 have h4 := hw.four at' _ hat
 simp only at h4
 have hjm : 2 ≤ oj.2.1 + 1 := by
  have := (hw.min j _ hoj hzj).1 hjr
  simpa only [x1, if_true] using this
 have hr : ∀ x ∈ kids, 0 ≤ x ∧ x < S.length := fun x hx => by
  obtain ⟨a, e, _, ⟨s, hs, _⟩, _⟩ := hw.kid at' _ hat x hx
  have := (List.getElem?_eq_some_iff.1 hs).1
  omega
 have em := manyS_at hij hoj
 have E := Env.start hB hS0
 refine enter (args := [tv root g S.length c, .int .i64 (at' : Int), .int .i64 (i : Int)]) Try.func91 rfl Try.ntmps91 rfl ?_
 intro x hT
 refine wp_seq ?_
 refine wp_region_lit ?_
 refine L_w hT rfl rfl rfl (e_box E rfl rfl) ?_
 rintro _ w ⟨b3, rfl, E, m⟩ x hT
 refine L_w hT rfl rfl rfl (e_tree E rfl) ?_
 rintro _ w ⟨b6, rfl, E, m⟩ x hT
 refine wpList_nil ?_
 show Code.wp _ _ _ _ _
 refine wp_seq ?_
 refine wp_seq ?_
 refine wp_region_lit ?_
 refine lq hT (q_load rfl rfl (l_tree (by exact E.cell (k := 1) rfl rfl) (by exact E.cell (k := 1) rfl rfl))) fun x hT => ?_
 refine lq hT (q_move rfl rfl) fun x hT => ?_
 refine lq hT (q_move rfl rfl) fun x hT => ?_
 refine L_w hT rfl rfl rfl (w_callN rfl rfl (by kernel_rfl) (args := [_, _, _]) rfl (c_many E.ts hc hat (by omega) hr)) ?_
 rintro _ w ⟨rfl, m⟩ x hT
 have E := E.below m
 refine lq hT (q_bin rfl rfl rfl n_ge) fun x hT => ?_
 refine wpList_nil ?_
 show Code.wp _ _ _ _ _
 refine wp_cond_split (hT.ev rfl) (fun h => ?_) (fun h => ?_)
 ·have h := of_decide_eq_true h
  refine wp_seq ?_
  refine wp_region_lit ?_
  refine lq hT (q_load rfl rfl (l_tree (by exact E.cell (k := 1) rfl rfl) (by exact E.cell (k := 1) rfl rfl))) fun x hT => ?_
  refine L_s hT rfl rfl (e_st2 0 E rfl rfl rfl rfl rfl rfl) ?_
  rintro _ w E
  refine wpList_nil ?_
  show Code.wp _ _ _ _ _
  refine wp_ret ?_
  repeat refine then_ret ?_
  show bodyPost _ _ _ _ _ _
  refine ret_t hT rfl rfl (E.bx _ (nth_mem (k := 0) rfl)) ?_
  refine ⟨_, rfl, rfl, S, E.ts, E.fr, (hw.enough hoj (by omega)).mono (fun i => Nat.zero_le _), fun _ _ => rfl, _, hat, hz⟩
 have h := of_decide_eq_false h
 refine wp_skip ?_
 show Code.wp _ _ _ _ _
 refine wp_seq ?_
 refine wp_seq ?_
 refine wp_region_lit ?_
 refine lq hT (q_load rfl rfl (l_tree (by exact E.cell (k := 1) rfl rfl) (by exact E.cell (k := 1) rfl rfl))) fun x hT => ?_
 refine lq hT (q_move rfl rfl) fun x hT => ?_
 refine lq hT (q_move rfl rfl) fun x hT => ?_
 refine lq hT (q_bin rfl rfl rfl (n_subI (by omega))) fun x hT => ?_
 refine L_w hT rfl rfl rfl (w_callN rfl rfl (by kernel_rfl) (args := [_, _, _]) rfl (c_many E.ts hc hat (by omega) hr)) ?_
 rintro _ w ⟨rfl, m⟩ x hT
 have E := E.below m
 refine lq hT (q_bin rfl rfl rfl n_gt) fun x hT => ?_
 refine wpList_nil ?_
 show Code.wp _ _ _ _ _
 have hj4 := hw.four j _ hoj
 obtain ⟨lf, jK, jV, jI, rfl, hjt, hjf⟩ := hw.shape hoj hzj
 simp only at em hjm hj4
 have hsame : ∀ {a : Nat} {oa : Sk}, S[a]? = some oa → oa ≠ zS → lv a + 1 = lv at' → ∃ aK aV aI, oa = (lf, aK, aV, aI) ∧ (lf = true → aV = aK) ∧ (lf = false → aI.length = aK + 1) := fun {a oa} hoa hza hla => by
  obtain ⟨lf', aK, aV, aI, rfl, h1, h2⟩ := hw.shape hoa hza
  have : lf' = lf := by
   cases lf <;> cases lf'
   ·rfl
   ·have := (h1 rfl).2.2; have := (hjf rfl).2.2; omega
   ·have := (h2 rfl).2.2; have := (hjt rfl).2.2; omega
   ·rfl
  subst this
  exact ⟨aK, aV, aI, rfl, fun e => (h1 e).1, fun e => (h2 e).2.1⟩
 refine wp_cond_split (hT.ev rfl) (fun h2 => ?_) (fun h2 => ?_)
 ·have h2 := of_decide_eq_true h2
  obtain ⟨k, rfl⟩ : ∃ k, i = k + 1 := ⟨i - 1, by
   refine (Nat.sub_add_cancel ?_).symm
   rcases Nat.lt_or_ge 0 i with h0 | h0
   ·exact h0
   ·obtain rfl : i = 0 := by omega
    have : manyS S kids (((0 : Nat) : Int) - 1) = 0 := by unfold manyS; rw [if_neg (by omega)]
    rw [this] at h2
    omega⟩
  have hka : ∃ q, kids[k]? = some q := ⟨_, List.getElem?_eq_getElem (by omega)⟩
  obtain ⟨q, hka⟩ := hka
  obtain ⟨a, rfl, har, ⟨oa, hoa, hza⟩, hla⟩ := hw.at_kid hat hka
  have ea := manyS_at hka hoa
  rw [show (((k + 1 : Nat) : Int) - 1) = (k : Int) by omega, ea] at h2
  have h4a := hw.four a _ hoa
  obtain ⟨aK, aV, aI, rfl, g1, g2⟩ := hsame hoa hza hla
  simp only at h2 h4a
  have haj : a ≠ j := kid_ne hw hat hka hij (by omega)
  have haat : at' ≠ a := fun e => by subst e; omega
  refine wp_seq ?_
  refine wp_region_lit ?_
  refine lq hT (q_load rfl rfl (l_tree (by exact E.cell (k := 1) rfl rfl) (by exact E.cell (k := 1) rfl rfl))) fun x hT => ?_
  refine lq hT (q_move rfl rfl) fun x hT => ?_
  refine lq hT (q_move rfl rfl) fun x hT => ?_
  refine L_w hT rfl rfl rfl (w_callN rfl rfl (by kernel_rfl) (args := [_, _, _]) rfl (lendL_any w B g c root S at' k a j K V aK jK aV jV lf kids aI jI E.hBw E.ts hl hc hat hkl h4 hka hij hoa hoj (by omega) h4a hj4 haj haat hatj (fun e => ⟨g1 e, (hjt e).1⟩) (fun e => ⟨g2 e, (hjf e).2.1⟩))) ?_
  rintro _ w ⟨rfl, nj, na, hTS, hF, hR⟩ x hT
  have E := E.step hF hTS
  refine L_s hT rfl rfl (e_st2 0 E rfl rfl rfl rfl rfl rfl) ?_
  rintro _ w E
  refine wpList_nil ?_
  show Code.wp _ _ _ _ _
  refine wp_ret ?_
  repeat refine then_ret ?_
  show bodyPost _ _ _ _ _ _
  refine ret_t hT rfl rfl (E.bx _ (nth_mem (k := 0) rfl)) ?_
  exact ⟨_, rfl, rfl, _, E.ts, E.fr, lendL_drop hw hat hz hla hlj haj hoa hoj hza hzj (by omega) (by omega) (by omega) (fun e => ⟨g2 e, (hjf e).2.1⟩) hR⟩
 have h2 := of_decide_eq_false h2
 refine wp_skip ?_
 show Code.wp _ _ _ _ _
 refine wp_seq ?_
 refine wp_seq ?_
 refine wp_region_lit ?_
 refine lq hT (q_load rfl rfl (l_tree (by exact E.cell (k := 1) rfl rfl) (by exact E.cell (k := 1) rfl rfl))) fun x hT => ?_
 refine lq hT (q_move rfl rfl) fun x hT => ?_
 refine lq hT (q_move rfl rfl) fun x hT => ?_
 refine lq hT (q_bin rfl rfl rfl (n_add (by omega))) fun x hT => ?_
 refine L_w hT rfl rfl rfl (w_callN rfl rfl (by kernel_rfl) (args := [_, _, _]) rfl (c_many E.ts hc hat (by omega) hr)) ?_
 rintro _ w ⟨rfl, m⟩ x hT
 have E := E.below m
 refine lq hT (q_bin rfl rfl rfl n_gt) fun x hT => ?_
 refine wpList_nil ?_
 show Code.wp _ _ _ _ _
 refine wp_cond_split (hT.ev rfl) (fun h3 => ?_) (fun h3 => ?_)
 ·have h3 := of_decide_eq_true h3
  have hi1 : i + 1 < kids.length := by
   refine Decidable.by_contra fun hh => ?_
   have : manyS S kids ((i + 1 : Nat) : Int) = 0 := by unfold manyS; rw [if_neg (by omega)]
   rw [this] at h3
   omega
  have hka : ∃ q, kids[i + 1]? = some q := ⟨_, List.getElem?_eq_getElem hi1⟩
  obtain ⟨q, hka⟩ := hka
  obtain ⟨a, rfl, har, ⟨oa, hoa, hza⟩, hla⟩ := hw.at_kid hat hka
  have ea := manyS_at hka hoa
  rw [ea] at h3
  have h4a := hw.four a _ hoa
  obtain ⟨aK, aV, aI, rfl, g1, g2⟩ := hsame hoa hza hla
  simp only at h3 h4a
  have haj : a ≠ j := kid_ne hw hat hka hij (by omega)
  have haat : at' ≠ a := fun e => by subst e; omega
  refine wp_seq ?_
  refine wp_region_lit ?_
  refine lq hT (q_load rfl rfl (l_tree (by exact E.cell (k := 1) rfl rfl) (by exact E.cell (k := 1) rfl rfl))) fun x hT => ?_
  refine lq hT (q_move rfl rfl) fun x hT => ?_
  refine lq hT (q_move rfl rfl) fun x hT => ?_
  refine L_w hT rfl rfl rfl (w_callN rfl rfl (by kernel_rfl) (args := [_, _, _]) rfl (lendR_any w B g c root S at' i a j K V aK jK aV jV lf kids aI jI E.hBw E.ts hl hc hat hkl h4 hij hka hoa hoj (by omega) h4a hj4 (by omega) haj haat hatj (fun e => ⟨g1 e, (hjt e).1⟩) (fun e => ⟨g2 e, (hjf e).2.1⟩))) ?_
  rintro _ w ⟨rfl, nj, na, hTS, hF, hR⟩ x hT
  have E := E.step hF hTS
  refine L_s hT rfl rfl (e_st2 0 E rfl rfl rfl rfl rfl rfl) ?_
  rintro _ w E
  refine wpList_nil ?_
  show Code.wp _ _ _ _ _
  refine wp_ret ?_
  repeat refine then_ret ?_
  show bodyPost _ _ _ _ _ _
  refine ret_t hT rfl rfl (E.bx _ (nth_mem (k := 0) rfl)) ?_
  exact ⟨_, rfl, rfl, _, E.ts, E.fr, lendR_drop hw hat hz hla hlj haj hoa hoj hza hzj (by omega) (by omega) (by omega) (fun e => ⟨g2 e, (hjf e).2.1⟩) hR⟩
 have h3 := of_decide_eq_false h3
 refine wp_skip ?_
 show Code.wp _ _ _ _ _
 refine wp_seq ?_
 refine wp_seq ?_
 refine wp_region_lit ?_
 refine lq hT (q_move rfl rfl) fun x hT => ?_
 refine lq hT (q_bin rfl rfl rfl n_gt) fun x hT => ?_
 refine wpList_nil ?_
 show Code.wp _ _ _ _ _
 refine wp_cond_split (hT.ev rfl) (fun h5 => ?_) (fun h5 => ?_)
 ·have h5 := of_decide_eq_true h5
  obtain ⟨k, rfl⟩ : ∃ k, i = k + 1 := ⟨i - 1, by omega⟩
  have hka : ∃ q, kids[k]? = some q := ⟨_, List.getElem?_eq_getElem (by omega)⟩
  obtain ⟨q, hka⟩ := hka
  obtain ⟨a, rfl, har, ⟨oa, hoa, hza⟩, hla⟩ := hw.at_kid hat hka
  have ea := manyS_at hka hoa
  rw [show (((k + 1 : Nat) : Int) - 1) = (k : Int) by omega, ea] at h2
  have h4a := hw.four a _ hoa
  have haj : a ≠ j := kid_ne hw hat hka hij (by omega)
  have ham : 2 ≤ oa.2.1 := by
   have := (hw.min a _ hoa hza).1 har
   simpa only [x1, if_neg haj, Nat.add_zero] using this
  obtain ⟨aK, aV, aI, rfl, g1, g2⟩ := hsame hoa hza hla
  simp only at h2 h4a ham
  have haat : at' ≠ a := fun e => by subst e; omega
  refine wp_seq ?_
  refine wp_region_lit ?_
  refine lq hT (q_load rfl rfl (l_tree (by exact E.cell (k := 1) rfl rfl) (by exact E.cell (k := 1) rfl rfl))) fun x hT => ?_
  refine lq hT (q_move rfl rfl) fun x hT => ?_
  refine lq hT (q_move rfl rfl) fun x hT => ?_
  refine lq hT (q_bin rfl rfl rfl (n_sub (by omega))) fun x hT => ?_
  refine L_w hT rfl rfl rfl (w_callN rfl rfl (by kernel_rfl) (args := [_, _, _]) rfl (merge_any w B g c root S at' k a j K V aK jK aV jV lf kids aI jI E.hBw E.ts hl hc hat hkl h4 hka hij hoa hoj h4a hj4 haj haat hatj (fun e => ⟨g1 e, (hjt e).1⟩) (fun e => ⟨g2 e, (hjf e).2.1⟩))) ?_
  rintro _ w ⟨rfl, na, hTS, hF, hR⟩ x hT
  have E := E.step hF hTS
  refine L_s hT rfl rfl (e_st2 0 E rfl rfl rfl rfl rfl rfl) ?_
  rintro _ w E
  refine wpList_nil ?_
  show Code.wp _ _ _ _ _
  refine wp_ret ?_
  repeat refine then_ret ?_
  show bodyPost _ _ _ _ _ _
  refine ret_t hT rfl rfl (E.bx _ (nth_mem (k := 0) rfl)) ?_
  exact ⟨_, rfl, rfl, _, E.ts, E.fr, merge_drop hw (.inr rfl) hat (by omega) hkl hka hij hla hlj hoa hoj hza (by omega) (by omega) (fun e => ⟨g2 e, (hjf e).2.1⟩) hR⟩
 have h5 := of_decide_eq_false h5
 refine wp_skip ?_
 obtain rfl : i = 0 := by omega
 have hka : ∃ q, kids[0 + 1]? = some q := ⟨_, List.getElem?_eq_getElem (by omega)⟩
 obtain ⟨q, hka⟩ := hka
 obtain ⟨a, rfl, har, ⟨oa, hoa, hza⟩, hla⟩ := hw.at_kid hat hka
 have ea := manyS_at hka hoa
 rw [ea] at h3
 have h4a := hw.four a _ hoa
 have haj : a ≠ j := kid_ne hw hat hka hij (by omega)
 have ham : 2 ≤ oa.2.1 := by
  have := (hw.min a _ hoa hza).1 har
  simpa only [x1, if_neg haj, Nat.add_zero] using this
 obtain ⟨aK, aV, aI, rfl, g1, g2⟩ := hsame hoa hza hla
 simp only at h3 h4a ham
 have haat : at' ≠ a := fun e => by subst e; omega
 show Code.wp _ _ _ _ _
 refine wp_seq ?_
 refine wp_region_lit ?_
 refine lq hT (q_load rfl rfl (l_tree (by exact E.cell (k := 1) rfl rfl) (by exact E.cell (k := 1) rfl rfl))) fun x hT => ?_
 refine lq hT (q_move rfl rfl) fun x hT => ?_
 refine lq hT (q_move rfl rfl) fun x hT => ?_
 refine L_w hT rfl rfl rfl (w_callN rfl rfl (by kernel_rfl) (args := [_, _, _]) rfl (merge_any w B g c root S at' 0 j a K V jK aK jV aV lf kids jI aI E.hBw E.ts hl hc hat hkl h4 hij hka hoj hoa hj4 h4a haj.symm hatj haat (fun e => ⟨(hjt e).1, g1 e⟩) (fun e => ⟨(hjf e).2.1, g2 e⟩))) ?_
 rintro _ w ⟨rfl, na, hTS, hF, hR⟩ x hT
 have E := E.step hF hTS
 refine L_s hT rfl rfl (e_st2 0 E rfl rfl rfl rfl rfl rfl) ?_
 rintro _ w E
 refine wpList_nil ?_
 show Code.wp _ _ _ _ _
 refine wp_ret ?_
 repeat refine then_ret ?_
 show bodyPost _ _ _ _ _ _
 refine ret_t hT rfl rfl (E.bx _ (nth_mem (k := 0) rfl)) ?_
 exact ⟨_, rfl, rfl, _, E.ts, E.fr, merge_drop hw (.inl rfl) hat (by omega) hkl hij hka hlj hla hoj hoa hzj (by omega) (by omega) (fun e => ⟨(hjf e).2.1, g2 e⟩) hR⟩
end Go.Proofs.Ytcolgghllacloaa.Tm
end

section
namespace Go.Proofs.Ytcolgghllacloaa.R
open Go.Rf Go.RowKit
inductive Has (N : List NodeT) (key : ByteArray) : Nat → Prop
 | leaf {i : Nat} {n : NodeT} : N[i]? = some n → n.1 = true → (∀ p, IsLow n.2.1 key p → p < n.2.1.length) → Has N key i
 | inner {i : Nat} {n : NodeT} : N[i]? = some n → n.1 = false → (∀ (p j : Nat), IsUp n.2.1 key p → n.2.2.2.1[p]? = some (j : Int) → Has N key j) → Has N key i
inductive Down (N : List NodeT) (key : ByteArray) : Nat → Prop
 | leaf {i : Nat} {n : NodeT} : N[i]? = some n → n.1 = true → okLen n.2.1.length → n.2.1.length ≤ n.2.2.1.length → Down N key i
 | inner {i p j : Nat} {n : NodeT} : N[i]? = some n → n.1 = false → okLen n.2.1.length → IsUp n.2.1 key p → n.2.2.2.1[p]? = some (j : Int) → Down N key j → Down N key i
theorem up_ex (l : List ByteArray) (hl : okLen l.length) (key : ByteArray) : ∃ p, IsUp l key p := by
 obtain ⟨p, hp, _⟩ := F90_ev l hl key
 exact ⟨p, hp⟩
theorem down_ev {N : List NodeT} {key : ByteArray} {root : Int} {i : Nat} (h : Down N key i) : ∃ leaf : NodeT, (∀ x0 x1 x2 x3, Ev (fun k => F85c2 k key root N x0 x1 x2 x3 (i : Int)) ((leaf, ()), (((), (), ()), (), ()))) ∧ leaf.1 = true ∧ okLen leaf.2.1.length ∧ leaf.2.1.length ≤ leaf.2.2.1.length ∧ ((∀ p, IsLow leaf.2.1 key p → p < leaf.2.1.length) → Has N key i) := by
 induction h with
 | @leaf i n hn hleaf hl hv =>
  refine ⟨n, fun _ _ _ _ => Ev.step 1 (fun k => F85c2_eq k _ _ _ _ _ _ _ _) ?_, hleaf, hl, hv, fun hp => .leaf hn hleaf hp⟩
  simp only [ge0, if_true, Int.toNat_natCast, hn, Option.bind_some, hleaf, Bool.not_true, Bool.false_eq_true, if_false]
  rw [← hleaf]
  exact Ev.now _
 | @inner i p j n hn hleaf hl hp hj _ ih =>
  obtain ⟨leaf, e1, e2, e3, e4, e5⟩ := ih
  obtain ⟨p', g1, g2⟩ := F90_ev n.2.1 hl key
  obtain rfl := g1.uniq hp
  have hpk := (List.getElem?_eq_some_iff.1 hj).1
  refine ⟨leaf, fun x0 x1 x2 x3 => Ev.step 1 (fun k => F85c2_eq k _ _ _ _ _ _ _ _) ?_, e2, e3, e4, fun hq => .inner hn hleaf fun p2 j2 h2 hj2 => ?_⟩
  ·simp only [ge0, if_true, Int.toNat_natCast, hn, Option.bind_some, hleaf, Bool.not_false]
   refine Ev.bind g2 ?_
   have hk1 : n.2.2.2.1.getD p' 0 = (j : Int) := by rw [List.getD_eq_getElem?_getD, hj]; rfl
   simp only [ge0, if_true, Int.toNat_natCast, getI_of hpk, Option.bind_some, hk1]
   exact e1 _ _ _ _
  ·obtain rfl := h2.uniq hp
   rw [hj] at hj2
   obtain rfl : j = j2 := by have := Option.some.inj hj2; omega
   exact e5 hq
theorem l9Get_ev {N : List NodeT} {key : ByteArray} {root : Nat} (h : Down N key root) : ∃ (v : ByteArray) (b : Bool), (b = true → Has N key root) ∧ Ev (fun k => F73 k (root : Int) N key) ((v, b, ()), (((), (), ()), (), ())) := by
 obtain ⟨leaf, e4, e2, hl, hv, hh⟩ := down_ev (root := (root : Int)) h
 obtain ⟨p', g1, g2⟩ := F86_ev leaf.2.1 hl key
 have s1 : ∀ {q}, Ev (fun _ => if (decide ((p' : Int) < (leaf.2.1.length : Int))) = true then if (decide (0 ≤ (p' : Int))) = true then (leaf.2.1[(p' : Int).toNat]?).bind fun y3 => if (y3.toList == key.toList) = true then if (decide (0 ≤ (p' : Int))) = true then (leaf.2.2.1[(p' : Int).toNat]?).bind fun y4 => some ((y4, true, ()), ((((), (), ()), (), ()) : (Unit × Unit × Unit) × Unit × Unit)) else none else some (((⟨#[]⟩ : ByteArray), false, ()), (((), (), ()), (), ())) else none else some (((⟨#[]⟩ : ByteArray), false, ()), (((), (), ()), (), ()))) q → Ev (fun k => F73 k (root : Int) N key) q := by
  intro q hq
  refine Ev.step 2 (fun k => F73_eq k _ _ _) (Ev.bind (Ev.step 2 (fun k => F85_eq k _ _ _) (e4 _ _ _ _)) (Ev.bind g2 hq))
 by_cases hp : p' < leaf.2.1.length
 ·have hp2 : p' < leaf.2.2.1.length := by omega
  simp only [lt_true hp, ge0, if_true, Int.toNat_natCast, getD_of hp, getD_of hp2, Option.bind_some] at s1
  cases he : ((leaf.2.1.getD p' ByteArray.empty).toList == key.toList) with
  | true =>
   simp only [he, if_true] at s1
   exact ⟨_, true, fun _ => hh fun q hq => by rw [hq.uniq g1]; exact hp, s1 (Ev.now _)⟩
  | false =>
   simp only [he, Bool.false_eq_true, if_false] at s1
   exact ⟨_, false, fun e => (by cases e), s1 (Ev.now _)⟩
 ·simp only [lt_false (Nat.le_of_not_lt hp), Bool.false_eq_true, if_false] at s1
  exact ⟨_, false, fun e => (by cases e), s1 (Ev.now _)⟩
theorem res_sbT {w : World} {Z : Nat → Prop} {s : ByteArray} {b : Bool} {vs : List Value} {fp : List Nat} (h : ShsRep w Z [.c (.v .str), .c (.v .bool)] (s, b, ()) vs fp) : tupV vs = .tuple #[.string s, .bool b] := by
 match vs, h with
 | [v, u], ⟨f, g, _, ⟨hv, _⟩, f2, g2, _, ⟨hu, _⟩, _⟩ =>
  have e1 := (List.cons.inj hv).1
  have e2 := (List.cons.inj hu).1
  subst e1 e2
  rfl
theorem ask_get {w : World} {root : Nat} {N : List NodeT} {v : Value} {key : ByteArray} (h : rep w (AllT w) (.sl nodeT) N [v]) (hd : Down N key root) :
  Calls Try.prog 73 #[.agg #[.int .i64 (root : Int), v], .string key] w fun e w' => ∃ (s : ByteArray) (b : Bool), e = .returned (.tuple #[.string s, .bool b]) ∧ (b = true → Has N key root) ∧ Below w.heap.size w w' := by
 obtain ⟨s, b, hb, hev⟩ := l9Get_ev hd
 obtain ⟨k, hk⟩ := hev.get
 refine (ask_read (told k 73 (((root : Int), N, ()), key, ()) ((s, b, ()), (((), (), ()), (), ())) hk) (args := [.agg #[.int .i64 (root : Int), v], .string key]) ⟨[], [], rfl, tree_shapeT h, [], [], rfl, ⟨rfl, rfl⟩, rfl⟩ (glT _ _)).mono ?_
 rintro e w' ⟨rvs, rfp, rfl, hs, _, _, hb'⟩
 exact ⟨s, b, by rw [res_sbT hs], hb, hb'⟩
end Go.Proofs.Ytcolgghllacloaa.R
end

section
namespace Go.Proofs.Ytcolgghllacloaa.Tm
open Go.Rf (RowIn strs ints rep nodeT ownL blk Src IsLow IsUp)
open Go.Proofs.Ytcolgghllacloaa.R (okLen Has)
open Go.RowKit Go.Proofs.Ytcolgghllacloaa.Q Go.Proofs.YtcolgghllacloaaW.PrintWords Go.Proofs.YtcolgghllacloaaW.PrintLast Go.Proofs.YtcolgghllacloaaW.PrintMore
section
variable {w0 w : World} {B g : Nat} {Lb : List BD} {Rs : List RD} {S : List Sk} {N : List Nd} {o : Oper} {L : List (Nat × Value)}
theorem Env.readx (E : Env w0 B g Lb Rs S w) (hX : TI w B g N) {i : Nat} {n : Nd} (hn : N[i]? = some n) : ∃ AK cK AV cV AI cI, w.cell? ⟨g, i * 4, none⟩ = some (.bool n.1) ∧ w.cell? ⟨g, i * 4 + 1, none⟩ = some (.slice AK n.2.1.length cK) ∧ w.cell? ⟨g, i * 4 + 2, none⟩ = some (.slice AV n.2.2.1.length cV) ∧ w.cell? ⟨g, i * 4 + 3, none⟩ = some (.slice AI n.2.2.2.1.length cI) ∧
  RowIn w B 9 (.slice AK n.2.1.length cK) (strs n.2.1) ∧ Env w0 B g Lb (.s (.slice AK n.2.1.length cK) n.2.1.length :: .s (.slice AV n.2.2.1.length cV) n.2.2.1.length :: .i (.slice AI n.2.2.2.1.length cI) n.2.2.2.1 :: Rs) S w := by
 obtain ⟨uK, uV, uI, q0, q1, q2, q3, rK, rV, rI⟩ := hX.node hn
 obtain ⟨AK, cK, rfl⟩ := RowIn.sform rK
 obtain ⟨AV, cV, rfl⟩ := RowIn.sform rV
 obtain ⟨AI, cI, rfl⟩ := RowIn.sform rI
 exact ⟨AK, cK, AV, cV, AI, cI, q0, q1, q2, q3, rK, ((E.add (r := .i _ _) rI).add (r := .s _ _) ⟨_, rfl, rV⟩).add (r := .s _ _) ⟨_, rfl, rK⟩⟩
theorem e_st4x (k : Nat) (E : Env w0 B g Lb Rs S w) {x y : Operand} {b : Nat} {v0 v1 v2 v3 x0 x1 x2 x3 : Value} (ho : o.op = .store 72 x y) (hx : ev L x = some (.pointer (some ⟨b, 0, none⟩))) (hy : ev L y = some (.agg #[v0, v1, v2, v3])) (hk : Lb[k]? = some (b, 72, [x0, x1, x2, x3])) (h0 : v0.oneCell' = true) (h1 : v1.oneCell' = true) (h2 : v2.oneCell' = true) (h3 : v3.oneCell' = true) :
  WY Try.prog o L w fun _ W => Env w0 B g (Lb.set k (b, 72, [v0, v1, v2, v3])) Rs S W ∧ (∀ N, TI w B g N → TI W B g N) ∧ ∀ v l, RowIn w B 9 v l → RowIn W B 9 v l :=
 (w_store ho hx hy (s_node (E.bx _ (nth_mem hk)) (by simp) h0 h1 h2 h3)).mono fun _ _ h => by
  subst h
  have hb : CellsAt w b 72 #[x0, x1, x2, x3] := E.bx _ (nth_mem hk)
  have hg := (E.ne _ (nth_mem hk)).1
  have b1 := hb.set 0 v0
  have b2 := b1.set 1 v1
  have b3 := b2.set 2 v2
  refine ⟨E.set4 hk v0 v1 v2 v3, fun N hN => (((hN.apart hb hg (by decide) (by decide) 0 v0).apart b1 hg (by decide) (by decide) 1 v1).apart b2 hg (by decide) (by decide) 2 v2).apart b3 hg (by decide) (by decide) 3 v3, fun v l r => ?_⟩
  exact r.keep fun x hx => set4_heap (o := 0) _ _ _ _ (RowIn.ne r hb (by decide) x hx)
theorem c_placeX {v : Value} {l : List ByteArray} {key : ByteArray} (h : RowIn w B 9 v (strs l)) (hn : l.length ≤ 1000) : Calls Try.prog 86 #[v, .string key] w (Ans fun u w' => ∃ p : Nat, u = .int .i64 (p : Int) ∧ IsLow l key p ∧ Below w.heap.size w w') := by
 refine (Go.Proofs.Ytcolgghllacloaa.R.ask_place (RowIn.srep h) (by unfold okLen; omega)).mono ?_
 rintro e w' ⟨p, rfl, h1, h2⟩
 exact ⟨_, rfl, p, rfl, h1, h2⟩
theorem c_kidX {v : Value} {l : List ByteArray} {key : ByteArray} (h : RowIn w B 9 v (strs l)) (hn : l.length ≤ 1000) : Calls Try.prog 90 #[v, .string key] w (Ans fun u w' => ∃ p : Nat, u = .int .i64 (p : Int) ∧ IsUp l key p ∧ Below w.heap.size w w') := by
 refine (Go.Proofs.Ytcolgghllacloaa.R.ask_kid (RowIn.srep h) (by unfold okLen; omega)).mono ?_
 rintro e w' ⟨p, rfl, h1, h2⟩
 exact ⟨_, rfl, p, rfl, h1, h2⟩
end
set_option maxRecDepth 100000 in
set_option maxHeartbeats 4000000 in
theorem drop_any (B g c : Nat) (root : Int) (N : List Nd) (key : ByteArray) (lv : Nat → Nat) (rt : Nat) (hc : (N.map sk).length ≤ c) (hw : WF (N.map sk) lv rt x0) : ∀ (d at' : Nat), lv at' < d → ∀ wz : World, B ≤ wz.heap.size → TI wz B g N → Has N key at' → (∃ s, (N.map sk)[at']? = some s ∧ s ≠ zS) →
  Calls Try.prog 75 #[tv root g (N.map sk).length c, .int .i64 (at' : Int), .string key] wz (Ans (DropPost wz B g c root (N.map sk) lv rt at')) := by
 intro d
 induction d with
 | zero => intro at' h; omega
 | succ d ih =>
 intro at' hd wz hB hX hHas hnz
 obtain ⟨s, hs, hz⟩ := hnz
 have hl := hw.len
 have hlt := (List.getElem?_eq_some_iff.1 hs).1
 have E := Env.start hB hX.ts
 refine enter (args := [tv root g (N.map sk).length c, .int .i64 (at' : Int), .string key]) Try.func75 rfl Try.ntmps75 rfl ?_
 intro x hT
 refine wp_seq ?_
 refine wp_region_lit ?_
 refine L_w hT rfl rfl rfl (e_box E rfl rfl) ?_
 rintro _ w ⟨b3, rfl, E, m⟩ x hT
 have hX := hX.below m
 refine L_w hT rfl rfl rfl (e_tree E rfl) ?_
 rintro _ w ⟨b6, rfl, E, m⟩ x hT
 have hX := hX.below m
 refine wpList_nil ?_
 show Code.wp _ _ _ _ _
 refine wp_seq ?_
 obtain ⟨n, hn⟩ : ∃ n, N[at']? = some n := ⟨_, List.getElem?_eq_getElem (by rw [List.length_map] at hlt; exact hlt)⟩
 have hsn : s = sk n := by rw [List.getElem?_map, hn] at hs; exact (Option.some.inj hs).symm
 have hat : (N.map sk)[at']? = some (n.1, n.2.1.length, n.2.2.1.length, n.2.2.2.1) := by rw [hs, hsn]; rfl
 have h4 := hw.four at' _ hs
 rw [hsn] at h4
 have h4 : n.2.1.length ≤ 4 := h4
 obtain ⟨uA, uc, uA2, uc2, uA3, uc3, q0, q1, q2, q3, rX, E⟩ := E.readx hX hn
 refine wp_region_lit ?_
 refine lq hT (q_field rfl rfl fT rfl) fun x hT => ?_
 refine lq hT (q_load rfl rfl (l_sn (by exact E.cell (k := 1) rfl rfl))) fun x hT => ?_
 refine lq hT (q_move rfl rfl) fun x hT => ?_
 refine lq hT (q_index rfl rfl rfl (i_node (by omega))) fun x hT => ?_
 refine lq hT (q_load rfl rfl (l_node q0 q1 q2 q3)) fun x hT => ?_
 refine L_w hT rfl rfl rfl (e_node E rfl) ?_
 rintro _ w ⟨b7, rfl, E, m⟩ x hT
 have hX := hX.below m
 have rX := rX.below m
 refine L_s hT rfl rfl (e_st4x 0 E rfl rfl rfl rfl rfl rfl rfl rfl) ?_
 rintro _ w ⟨E, hX', rX'⟩
 have hX := hX' _ hX
 have rX := rX' _ _ rX
 clear hX' rX'
 refine wpList_nil ?_
 clear q0 q1 q2 q3
 show Code.wp _ _ _ _ _
 refine wp_seq ?_
 refine wp_seq ?_
 refine wp_region_lit ?_
 refine lq hT (q_field rfl rfl fN rfl) fun x hT => ?_
 refine lq hT (q_load rfl rfl (l_bool (by exact E.cell (k := 0) rfl rfl))) fun x hT => ?_
 refine wpList_nil ?_
 show Code.wp _ _ _ _ _
 cases hlf : n.1 with
 | true =>
  rw [hlf] at hT hat
  obtain ⟨hVK, hI, hlv0⟩ := hw.leaf at' _ hat rfl
  simp only at hVK hI
  have hpl : ∀ p, IsLow n.2.1 key p → p < n.2.1.length := by
   cases hHas with
   | leaf h1 h2 h3 => rw [hn] at h1; obtain rfl := Option.some.inj h1; exact h3
   | inner h1 h2 h3 => rw [hn] at h1; obtain rfl := Option.some.inj h1; rw [hlf] at h2; cases h2
  refine wp_cond_true (hT.ev rfl) ?_
  refine wp_seq ?_
  refine wp_region_lit ?_
  refine lq hT (q_field rfl rfl fN rfl) fun x hT => ?_
  refine lq hT (q_load rfl rfl (l_ss (by exact E.cell (k := 0) rfl rfl))) fun x hT => ?_
  refine lq hT (q_move rfl rfl) fun x hT => ?_
  refine L_w hT rfl rfl rfl (w_callN rfl rfl (by kernel_rfl) (args := [_, _]) rfl (c_placeX rX (by omega))) ?_
  rintro _ w ⟨p, rfl, hp, m⟩ x hT
  have E := E.below m
  have hp := hpl p hp
  refine lq hT (q_assign rfl rfl) fun x hT => ?_
  refine wpList_nil ?_
  show Code.wp _ _ _ _ _
  refine wp_seq ?_
  refine wp_region_M (n := 14) (Below w.drew.heap.size w.drew) [0, 1, 2, 3, 4, 5, 6, 7, 8, 9, 10, 11, 12] [] (by kernel_rfl) rfl ?_
  have hS := Below.refl w.drew.heap.size w.drew
  have E0 := E.below (below_drew w)
  have E := E0
  refine mq 0 [1, 12, 13] hT hS rfl (fun w' hw => q_field rfl rfl fT rfl) fun x hT => ?_
  refine mq 1 [12, 13] hT hS rfl (fun w' hw => q_load rfl rfl (l_sn (ck (by exact E0.cell (k := 2) rfl rfl) w' hw))) fun x hT => ?_
  refine mq 2 [12, 13] hT hS rfl (fun w' hw => q_move rfl rfl) fun x hT => ?_
  refine mq 3 [4, 6, 10, 11, 12, 13] hT hS rfl (fun w' hw => q_field rfl rfl fN rfl) fun x hT => ?_
  refine mq 4 [6, 10, 11, 12, 13] hT hS rfl (fun w' hw => q_load rfl rfl (l_ss (ck (by exact E0.cell (k := 0) rfl rfl) w' hw))) fun x hT => ?_
  refine mq 5 [6, 10, 11, 12, 13] hT hS rfl (fun w' hw => q_move rfl rfl) fun x hT => ?_
  refine mq 7 [8, 10, 11, 12, 13] hT hS rfl (fun w' hw => q_field rfl rfl fN rfl) fun x hT => ?_
  refine mq 8 [10, 11, 12, 13] hT hS rfl (fun w' hw => q_load rfl rfl (l_ss (ck (by exact E0.cell (k := 0) rfl rfl) w' hw))) fun x hT => ?_
  refine mq 9 [10, 11, 12, 13] hT hS rfl (fun w' hw => q_move rfl rfl) fun x hT => ?_
  refine M_one 6 (by kernel_rfl) ?_
  refine at_w hT rfl rfl rfl rfl (w_callN rfl rfl (by kernel_rfl) (args := [_, _]) rfl (c_out E.hBw (E.row (k := 0) rfl) (by omega) hp)) ?_
  rintro _ w ⟨r1, m⟩ x hT
  have hS := hS.trans (m.mono hS.size)
  have E := E.below m
  refine ⟨fun _ _ => hS, ?_⟩
  refine M_one 10 (by kernel_rfl) ?_
  refine at_w hT rfl rfl rfl rfl (w_callN rfl rfl (by kernel_rfl) (args := [_, _]) rfl (c_out E.hBw (E.row (k := 1) rfl) (by omega) (by omega))) ?_
  rintro _ w ⟨r2, m⟩ x hT
  have hS := hS.trans (m.mono hS.size)
  have E := E.below m
  have r1 := RD.below (r := .s _ _) r1 m
  refine ⟨fun _ _ => hS, ?_⟩
  refine M_one 11 (by kernel_rfl) ?_
  refine at_w hT rfl rfl rfl rfl (w_callN rfl rfl (by kernel_rfl) (args := [_, _]) rfl (c_leafOf E.hBw (RD.ss r1) (RD.ss r2) (by omega) (by omega))) ?_
  rintro _ w ⟨r3, m⟩ x hT
  have hS := hS.trans (m.mono hS.size)
  have E := E.below m
  refine ⟨fun _ _ => hS, ?_⟩
  refine mq 12 [13] hT hS rfl (fun w' hw => q_index rfl rfl rfl (i_node (by omega))) fun x hT => ?_
  refine M_one 13 (by kernel_rfl) ?_
  refine at_s hT rfl rfl rfl (e_stN E rfl rfl rfl r3 hlt) ?_
  rintro _ w E
  refine ⟨fun h => absurd h (by decide), ?_⟩
  refine M_end (by kernel_rfl) ?_
  show Code.wp _ _ _ _ _
  refine wp_seq ?_
  refine wp_region_lit ?_
  refine lq hT (q_load rfl rfl (l_tree (by exact E.cell (k := 2) rfl rfl) (by exact E.cell (k := 2) rfl rfl))) fun x hT => ?_
  refine L_s hT rfl rfl (e_st2 1 E rfl rfl rfl rfl rfl rfl) ?_
  rintro _ w E
  refine wpList_nil ?_
  show Code.wp _ _ _ _ _
  refine wp_ret ?_
  repeat refine then_ret ?_
  show bodyPost _ _ _ _ _ _
  refine ret_t hT rfl rfl (E.bx _ (nth_mem (k := 1) rfl)) ?_
  rw [hVK] at E
  exact ⟨_, rfl, rfl, _, E.ts, E.fr, drop_leaf hw hat (by omega), fun i hi => set_ne (by intro e; subst e; omega), _, set_eq hlt, by simp⟩
 | false =>
  rw [hlf] at hT hat
  have hzz : ((false, n.2.1.length, n.2.2.1.length, n.2.2.2.1) : Sk) ≠ zS := by
   rw [hs] at hat
   rw [← Option.some.inj hat]
   exact hz
  obtain ⟨hV0, hkl, hlv0⟩ := hw.inner at' _ hat rfl hzz
  simp only at hV0 hkl
  have hkid : ∀ (p j : Nat), IsUp n.2.1 key p → n.2.2.2.1[p]? = some (j : Int) → Has N key j := by
   cases hHas with
   | leaf h1 h2 h3 => rw [hn] at h1; obtain rfl := Option.some.inj h1; rw [hlf] at h2; cases h2
   | inner h1 h2 h3 => rw [hn] at h1; obtain rfl := Option.some.inj h1; exact h3
  refine wp_cond_false (hT.ev rfl) ?_
  refine wp_skip ?_
  show Code.wp _ _ _ _ _
  refine wp_seq ?_
  refine wp_region_lit ?_
  refine lq hT (q_field rfl rfl fN rfl) fun x hT => ?_
  refine lq hT (q_load rfl rfl (l_ss (by exact E.cell (k := 0) rfl rfl))) fun x hT => ?_
  refine lq hT (q_move rfl rfl) fun x hT => ?_
  refine L_w hT rfl rfl rfl (w_callN rfl rfl (by kernel_rfl) (args := [_, _]) rfl (c_kidX rX (by omega))) ?_
  rintro _ w ⟨p, rfl, hp, m⟩ x hT
  have E := E.below m
  have hX := hX.below m
  refine lq hT (q_assign rfl rfl) fun x hT => ?_
  refine wpList_nil ?_
  have hpl := hp.1
  obtain ⟨q, hq⟩ : ∃ q, n.2.2.2.1[p]? = some q := ⟨_, List.getElem?_eq_getElem (by omega)⟩
  obtain ⟨j, rfl, hjr, hjz, hlj⟩ := hw.at_kid hat hq
  obtain ⟨kb, rfl, hkc⟩ := RD.iblk (E.row (k := 2) rfl) (by omega)
  have i1 := RD.iat ((E.below (below_drew w)).row (k := 2) rfl) hq
  have hX := hX.below (below_drew w)
  show Code.wp _ _ _ _ _
  refine wp_seq ?_
  refine wp_region_M (n := 12) (Below w.drew.heap.size w.drew) [0, 1, 2, 3, 4, 5, 6] [7, 10] (by kernel_rfl) rfl ?_
  have hS := Below.refl w.drew.heap.size w.drew
  have E0 := E.below (below_drew w)
  have E := E0
  refine M_q0 8 hT rfl (by kernel_rfl) rfl rfl rfl (fun _ _ _ h => h) (fun w' => q_move rfl rfl) ?_
  intro x hT
  refine M_q0 9 hT rfl (by kernel_rfl) rfl rfl rfl (fun _ _ _ h => h) (fun w' => q_move rfl rfl) ?_
  intro x hT
  refine mq 0 [7, 10, 11] hT hS rfl (fun w' hw => q_load rfl rfl (l_tree (ck (by exact E0.cell (k := 2) rfl rfl) w' hw) (ck (by exact E0.cell (k := 2) rfl rfl) w' hw))) fun x hT => ?_
  refine mq 1 [2, 4, 5, 7, 10, 11] hT hS rfl (fun w' hw => q_field rfl rfl fN rfl) fun x hT => ?_
  refine mq 2 [4, 5, 7, 10, 11] hT hS rfl (fun w' hw => q_load rfl rfl (l_si (ck (by exact E0.cell (k := 0) rfl rfl) w' hw))) fun x hT => ?_
  refine mq 3 [4, 5, 7, 10, 11] hT hS rfl (fun w' hw => q_move rfl rfl) fun x hT => ?_
  refine mq 4 [5, 7, 10, 11] hT hS rfl (fun w' hw => q_index rfl rfl rfl (i_int (by omega))) fun x hT => ?_
  refine mq 5 [7, 10, 11] hT hS rfl (fun w' hw => q_load rfl rfl (l_int (ck i1 w' hw))) fun x hT => ?_
  refine mq 6 [7, 10, 11] hT hS rfl (fun w' hw => q_move rfl rfl) fun x hT => ?_
  refine M_one 7 (by kernel_rfl) ?_
  refine at_w hT rfl rfl rfl rfl (w_callN rfl rfl (by kernel_rfl) (args := [_, _, _]) rfl (ih j (by omega) _ E.hBw hX (hkid p j hp hq) hjz)) ?_
  rintro _ w ⟨rfl, S1, hT1, hF1, hR1⟩ x hT
  have E := E.step hF1 hT1
  have hat1 : S1[at']? = some (false, n.2.1.length, n.2.2.1.length, n.2.2.2.1) := (hR1.2.1 at' (by omega)).trans hat
  have hl1 : S1.length = (N.map sk).length := by rw [hR1.1.len, hl]
  refine ⟨fun h => absurd h (by decide), ?_⟩
  refine M_one 10 (by kernel_rfl) ?_
  refine at_w hT rfl rfl rfl rfl (w_callN rfl rfl (by kernel_rfl) (args := [_, _, _]) rfl (by have := mend_any w B g c root S1 lv rt at' p j _ _ _ E.hBw E.ts (by rw [hl1]; exact hc) hR1.1 hat1 hzz hq; unfold DropPost at this; rw [hl1] at this; exact this)) ?_
  rintro _ w ⟨rfl, S2, hT2, hF2, hR2⟩ x hT
  have E := E.step hF2 hT2
  refine ⟨fun h => absurd h (by decide), ?_⟩
  refine M_one 11 (by kernel_rfl) ?_
  refine at_s hT rfl rfl rfl (e_st2 1 E rfl rfl rfl rfl rfl rfl) ?_
  rintro _ w E
  refine ⟨fun h => absurd h (by decide), ?_⟩
  refine M_end (by kernel_rfl) ?_
  show Code.wp _ _ _ _ _
  refine wp_ret ?_
  repeat refine then_ret ?_
  show bodyPost _ _ _ _ _ _
  refine ret_t hT rfl rfl (E.bx _ (nth_mem (k := 1) rfl)) ?_
  exact ⟨_, rfl, rfl, S2, E.ts, E.fr, hR2.1, fun i hi => (hR2.2.1 i hi).trans (hR1.2.1 i (by omega)), hR2.2.2⟩
end Go.Proofs.Ytcolgghllacloaa.Tm
end

section
namespace Go.Proofs.Ytcolgghllacloaa.Tm
open Go.Rf (RowIn strs ints rep nodeT ownL blk Src IsLow IsUp)
open Go.Proofs.Ytcolgghllacloaa.R (okLen)
open Go.RowKit Go.Proofs.Ytcolgghllacloaa.Q Go.Proofs.YtcolgghllacloaaW.PrintWords Go.Proofs.YtcolgghllacloaaW.PrintLast Go.Proofs.YtcolgghllacloaaW.PrintMore
section
theorem b_up0 (w : World) : (Instr.build 109 #[]).run Try.prog w = .ok (.agg #[.bool false, .string ⟨#[]⟩, .int .i64 0, .bool false]) w := by simp [go_sem, Instr.build, Instr.fill]
theorem b_upF (w : World) : (Instr.build 109 #[(3, .bool true)]).run Try.prog w = .ok (.agg #[.bool false, .string ⟨#[]⟩, .int .i64 0, .bool true]) w := by simp [go_sem, Instr.build, Instr.fill]
theorem b_upS (w : World) (s : ByteArray) (i : Int) : (Instr.build 109 #[(0, .bool true), (1, .string s), (2, .int .i64 i)]).run Try.prog w = .ok (.agg #[.bool true, .string s, .int .i64 i, .bool false]) w := by simp [go_sem, Instr.build, Instr.fill]
variable {w : World} {x y : Operand} {i j : Int} {s t : ByteArray}
theorem n_ltT (h : i < j) : (do eqGuard .lss 3 x y (.int .i64 i) (.int .i64 j); binOp .lss 3 (.int .i64 i) (.int .i64 j) : Sem Value).run Try.prog w = .ok (.bool true) w := by simp [go_sem, h]
theorem n_ltF (h : ¬ i < j) : (do eqGuard .lss 3 x y (.int .i64 i) (.int .i64 j); binOp .lss 3 (.int .i64 i) (.int .i64 j) : Sem Value).run Try.prog w = .ok (.bool false) w := by simp [go_sem]; omega
theorem s_eq : (do eqGuard .eql 9 x y (.string s) (.string t); binOp .eql 9 (.string s) (.string t) : Sem Value).run Try.prog w = .ok (.bool (s.toList == t.toList)) w := by simp [go_sem]
theorem wp_cut2 {P : Program} {Q : Exit → Act → World → Prop} {a : Act} {c : Code} (R : Act → World → Prop) (h : c.wp P (fun e a w => (e = .normal ∧ R a w) ∨ (e = .ret ∧ Q .ret a w)) a w) (h2 : ∀ a w, R a w → Q .normal a w) : c.wp P Q a w :=
 Code.wp_mono (fun e a w h => h.elim (fun ⟨he, hR⟩ => by subst he; exact h2 a w hR) (fun ⟨he, hR⟩ => by subst he; exact hR)) h
end
set_option maxRecDepth 100000 in
set_option maxHeartbeats 4000000 in
theorem putLeaf2 (wz : World) (B g c : Nat) (root : Int) (S : List Sk) (at' K : Nat) (key val : ByteArray) (hB : B ≤ wz.heap.size) (hS0 : TS wz B g S) (hl : S.length ≤ 1000) (hc : S.length ≤ c) (hs : S[at']? = some (true, K, K, [])) (hk : K ≤ 4) :
  Calls Try.prog 92 #[tv root g S.length c, .int .i64 (at' : Int), .string key, .string val] wz (Ans fun v w' => ∃ S' u, v = .tuple #[tv root g S.length c, upv u] ∧ TS w' B g S' ∧ Fr B g wz w' ∧ PutL S at' K S' u) := by
 have hlt := (List.getElem?_eq_some_iff.1 hs).1
 have E := Env.start hB hS0
 refine enter (args := [tv root g S.length c, .int .i64 (at' : Int), .string key, .string val]) Try.func92 rfl Try.ntmps92 rfl ?_
 intro x hT
 refine wp_seq ?_
 refine wp_region_lit ?_
 refine L_w hT rfl rfl rfl (e_box E rfl rfl) ?_
 rintro _ w ⟨b4, rfl, E, m⟩ x hT
 refine L_w hT rfl rfl rfl (e_tree E rfl) ?_
 rintro _ w ⟨b8, rfl, E, m⟩ x hT
 refine L_w hT rfl rfl rfl (e_up E rfl) ?_
 rintro _ w ⟨b9, rfl, E, m⟩ x hT
 refine wpList_nil ?_
 show Code.wp _ _ _ _ _
 refine wp_seq ?_
 obtain ⟨uA, uc, uA2, uc2, uA3, uc3, q0, q1, q2, q3, E⟩ := E.readf hs
 refine wp_region_lit ?_
 refine lq hT (q_field rfl rfl fT rfl) fun x hT => ?_
 refine lq hT (q_load rfl rfl (l_sn (by exact E.cell (k := 2) rfl rfl))) fun x hT => ?_
 refine lq hT (q_move rfl rfl) fun x hT => ?_
 refine lq hT (q_index rfl rfl rfl (i_node (by omega))) fun x hT => ?_
 refine lq hT (q_load rfl rfl (l_node q0 q1 q2 q3)) fun x hT => ?_
 refine L_w hT rfl rfl rfl (e_node E rfl) ?_
 rintro _ w ⟨b10, rfl, E, m⟩ x hT
 refine L_s hT rfl rfl (e_st4 0 E rfl rfl rfl rfl rfl rfl rfl rfl) ?_
 rintro _ w E
 refine wpList_nil ?_
 clear q0 q1 q2 q3
 show Code.wp _ _ _ _ _
 refine wp_seq ?_
 refine wp_region_lit ?_
 refine lq hT (q_field rfl rfl fN rfl) fun x hT => ?_
 refine lq hT (q_load rfl rfl (l_ss (by exact E.cell (k := 0) rfl rfl))) fun x hT => ?_
 refine lq hT (q_move rfl rfl) fun x hT => ?_
 refine L_w hT rfl rfl rfl (w_callN rfl rfl (by kernel_rfl) (args := [_, _]) rfl (c_place (RD.ss (E.row (k := 0) rfl)) (by omega))) ?_
 rintro _ w ⟨p, rfl, hp, m⟩ x hT
 have E := E.below m
 refine lq hT (q_assign rfl rfl) fun x hT => ?_
 refine wpList_nil ?_
 show Code.wp _ _ _ _ _
 refine wp_seq ?_
 refine wp_cut2 (fun x w => hT.keep [1, 2, 3, 4, 8, 9, 10, 11] x ∧ E.at S w) ?_ ?_
 ·refine wp_seq ?_
  by_cases hpk : p < K
  ·obtain ⟨sb, rfl, hsc⟩ := RD.sblk (E.row (k := 0) rfl) (by omega)
   obtain ⟨vb, rfl, hvc⟩ := RD.sblk (E.row (k := 1) rfl) (by omega)
   obtain ⟨s3, hs3⟩ := RD.sat (E.row (k := 0) rfl) hpk
   refine wp_region_lit ?_
   refine lq hT (q_move rfl rfl) fun x hT => ?_
   refine lq hT (q_field rfl rfl fN rfl) fun x hT => ?_
   refine lq hT (q_load rfl rfl (l_ss (by exact E.cell (k := 0) rfl rfl))) fun x hT => ?_
   refine lq hT (q_len rfl Try.underlying62 rfl) fun x hT => ?_
   refine lq hT (q_bin rfl rfl rfl (n_ltT (by omega))) fun x hT => ?_
   refine lq hT (q_move rfl rfl) fun x hT => ?_
   refine L_qg hT rfl rfl rfl rfl rfl rfl (q_field rfl rfl fN rfl) ?_
   intro x hT
   refine L_qg hT rfl rfl rfl rfl rfl rfl (q_load rfl rfl (l_ss (by exact E.cell (k := 0) rfl rfl))) ?_
   intro x hT
   refine L_qg hT rfl rfl rfl rfl rfl rfl (q_move rfl rfl) ?_
   intro x hT
   refine L_qg hT rfl rfl rfl rfl rfl rfl (q_index rfl rfl rfl (i_str (by omega))) ?_
   intro x hT
   refine L_qg hT rfl rfl rfl rfl rfl rfl (q_load rfl rfl (l_str hs3)) ?_
   intro x hT
   refine L_qg hT rfl rfl rfl rfl rfl rfl (q_move rfl rfl) ?_
   intro x hT
   refine L_qg hT rfl rfl rfl rfl rfl rfl (q_bin rfl rfl rfl s_eq) ?_
   intro x hT
   refine lq hT (q_pick rfl rfl rfl rfl) fun x hT => ?_
   refine wpList_nil ?_
   show Code.wp _ _ _ _ _
   refine wp_cond_split (hT.ev rfl) (fun h5 => ?_) (fun h5 => ?_)
   ·refine wp_seq ?_
    refine wp_region_lit ?_
    refine lq hT (q_field rfl rfl fN rfl) fun x hT => ?_
    refine lq hT (q_load rfl rfl (l_ss (by exact E.cell (k := 0) rfl rfl))) fun x hT => ?_
    refine lq hT (q_move rfl rfl) fun x hT => ?_
    refine lq hT (q_move rfl rfl) fun x hT => ?_
    refine lq hT (q_index rfl rfl rfl (i_str (by omega))) fun x hT => ?_
    refine L_s hT rfl rfl (e_stS E rfl rfl rfl (E.row (k := 1) rfl) hpk) ?_
    rintro _ w E
    refine wpList_nil ?_
    show Code.wp _ _ _ _ _
    refine wp_seq ?_
    refine wp_region_lit ?_
    refine lq hT (q_load rfl rfl (l_tree (by exact E.cell (k := 3) rfl rfl) (by exact E.cell (k := 3) rfl rfl))) fun x hT => ?_
    refine lq hT (q_build0 rfl (b_up0 _)) fun x hT => ?_
    refine L_s hT rfl rfl (e_st2 2 E rfl rfl rfl rfl rfl rfl) ?_
    rintro _ w E
    refine L_s hT rfl rfl (e_stU 1 E rfl rfl rfl rfl rfl rfl rfl rfl) ?_
    rintro _ w E
    refine wpList_nil ?_
    show Code.wp _ _ _ _ _
    refine wp_ret ?_
    refine .inr ⟨rfl, ?_⟩
    repeat refine then_ret ?_
    show bodyPost _ _ _ _ _ _
    refine ret_tu hT rfl rfl rfl (E.bx _ (nth_mem (k := 2) rfl)) (E.bx _ (nth_mem (k := 1) rfl)) ?_
    exact ⟨_, rfl, S, (false, ⟨#[]⟩, 0, false), rfl, E.ts, E.fr, .inl ⟨rfl, rfl⟩⟩
   ·refine wp_skip ?_
    exact .inl ⟨rfl, hT.sel [1, 2, 3, 4, 8, 9, 10, 11], E⟩
  ·skip
   refine wp_region_lit ?_
   refine lq hT (q_move rfl rfl) fun x hT => ?_
   refine lq hT (q_field rfl rfl fN rfl) fun x hT => ?_
   refine lq hT (q_load rfl rfl (l_ss (by exact E.cell (k := 0) rfl rfl))) fun x hT => ?_
   refine lq hT (q_len rfl Try.underlying62 rfl) fun x hT => ?_
   refine lq hT (q_bin rfl rfl rfl (n_ltF (by omega))) fun x hT => ?_
   refine lq hT (q_move rfl rfl) fun x hT => ?_
   refine L_qn hT rfl rfl rfl rfl rfl rfl rfl ?_
   intro x hT
   refine L_qn hT rfl rfl rfl rfl rfl rfl rfl ?_
   intro x hT
   refine L_qn hT rfl rfl rfl rfl rfl rfl rfl ?_
   intro x hT
   refine L_qn hT rfl rfl rfl rfl rfl rfl rfl ?_
   intro x hT
   refine L_qn hT rfl rfl rfl rfl rfl rfl rfl ?_
   intro x hT
   refine L_qn hT rfl rfl rfl rfl rfl rfl rfl ?_
   intro x hT
   refine L_qn hT rfl rfl rfl rfl rfl rfl rfl ?_
   intro x hT
   refine lq hT (q_pick_f rfl rfl rfl) fun x hT => ?_
   refine wpList_nil ?_
   show Code.wp _ _ _ _ _
   refine wp_cond_false (hT.ev rfl) ?_
   refine wp_skip ?_
   exact .inl ⟨rfl, hT.sel [1, 2, 3, 4, 8, 9, 10, 11], E⟩
 rintro x w ⟨hT, E⟩
 unfold Tm.keep at hT
 unfold Env.at at E
 show Code.wp _ _ _ _ _
 refine wp_seq ?_
 refine wp_region_lit ?_
 refine lq hT (q_field rfl rfl fN rfl) fun x hT => ?_
 refine lq hT (q_load rfl rfl (l_ss (by exact E.cell (k := 0) rfl rfl))) fun x hT => ?_
 refine lq hT (q_move rfl rfl) fun x hT => ?_
 refine lq hT (q_move rfl rfl) fun x hT => ?_
 refine L_w hT rfl rfl rfl (w_callN rfl rfl (by kernel_rfl) (args := [_, _, _]) rfl (c_in E.hBw (RD.ss (E.row (k := 0) rfl)) (by omega) hp)) ?_
 rintro _ w ⟨r1, m⟩ x hT
 have E := E.below m
 refine lq hT (q_assign rfl rfl) fun x hT => ?_
 refine wpList_nil ?_
 have E := E.add r1
 show Code.wp _ _ _ _ _
 refine wp_seq ?_
 refine wp_region_lit ?_
 refine lq hT (q_field rfl rfl fN rfl) fun x hT => ?_
 refine lq hT (q_load rfl rfl (l_ss (by exact E.cell (k := 0) rfl rfl))) fun x hT => ?_
 refine lq hT (q_move rfl rfl) fun x hT => ?_
 refine lq hT (q_move rfl rfl) fun x hT => ?_
 refine L_w hT rfl rfl rfl (w_callN rfl rfl (by kernel_rfl) (args := [_, _, _]) rfl (c_in E.hBw (RD.ss (E.row (k := 2) rfl)) (by omega) hp)) ?_
 rintro _ w ⟨r2, m⟩ x hT
 have E := E.below m
 refine lq hT (q_assign rfl rfl) fun x hT => ?_
 refine wpList_nil ?_
 have E := E.add r2
 clear r1 r2 m
 obtain ⟨A12, c12, rfl⟩ := RD.sform (E.row (k := 1) rfl)
 obtain ⟨A13, c13, rfl⟩ := RD.sform (E.row (k := 0) rfl)
 show Code.wp _ _ _ _ _
 refine wp_seq ?_
 refine wp_seq ?_
 refine wp_region_lit ?_
 refine lq hT (q_move rfl rfl) fun x hT => ?_
 refine lq hT (q_len rfl Try.underlying62 rfl) fun x hT => ?_
 refine lq hT (q_bin rfl rfl rfl n_le) fun x hT => ?_
 refine wpList_nil ?_
 show Code.wp _ _ _ _ _
 refine wp_cond_split (hT.ev rfl) (fun h5 => ?_) (fun h5 => ?_)
 ·have h5 := of_decide_eq_true h5
  refine wp_seq ?_
  refine wp_region_M (n := 8) (Below w.drew.heap.size w.drew) [0, 1, 2, 3, 4, 5, 6] [] (by kernel_rfl) rfl ?_
  have hS := Below.refl w.drew.heap.size w.drew
  have E0 := E.below (below_drew w)
  have E := E0
  refine mq 0 [1, 6, 7] hT hS rfl (fun w' hw => q_field rfl rfl fT rfl) fun x hT => ?_
  refine mq 1 [6, 7] hT hS rfl (fun w' hw => q_load rfl rfl (l_sn (ck (by exact E0.cell (k := 3) rfl rfl) w' hw))) fun x hT => ?_
  refine mq 2 [6, 7] hT hS rfl (fun w' hw => q_move rfl rfl) fun x hT => ?_
  refine mq 3 [5, 6, 7] hT hS rfl (fun w' hw => q_move rfl rfl) fun x hT => ?_
  refine mq 4 [5, 6, 7] hT hS rfl (fun w' hw => q_move rfl rfl) fun x hT => ?_
  refine M_one 5 (by kernel_rfl) ?_
  refine at_w hT rfl rfl rfl rfl (w_callN rfl rfl (by kernel_rfl) (args := [_, _]) rfl (c_leafOf E.hBw (RD.ss (E.row (k := 1) rfl)) (RD.ss (E.row (k := 0) rfl)) (by omega) (by omega))) ?_
  rintro _ w ⟨r3, m⟩ x hT
  have hS := hS.trans (m.mono hS.size)
  have E := E.below m
  refine ⟨fun _ _ => hS, ?_⟩
  refine mq 6 [7] hT hS rfl (fun w' hw => q_index rfl rfl rfl (i_node (by omega))) fun x hT => ?_
  refine M_one 7 (by kernel_rfl) ?_
  refine at_s hT rfl rfl rfl (e_stN E rfl rfl rfl r3 hlt) ?_
  rintro _ w E
  refine ⟨fun h => absurd h (by decide), ?_⟩
  refine M_end (by kernel_rfl) ?_
  show Code.wp _ _ _ _ _
  refine wp_seq ?_
  refine wp_region_lit ?_
  refine lq hT (q_load rfl rfl (l_tree (by exact E.cell (k := 3) rfl rfl) (by exact E.cell (k := 3) rfl rfl))) fun x hT => ?_
  refine lq hT (q_build0 rfl (b_up0 _)) fun x hT => ?_
  refine L_s hT rfl rfl (e_st2 2 E rfl rfl rfl rfl rfl rfl) ?_
  rintro _ w E
  refine L_s hT rfl rfl (e_stU 1 E rfl rfl rfl rfl rfl rfl rfl rfl) ?_
  rintro _ w E
  refine wpList_nil ?_
  show Code.wp _ _ _ _ _
  refine wp_ret ?_
  repeat refine then_ret ?_
  show bodyPost _ _ _ _ _ _
  refine ret_tu hT rfl rfl rfl (E.bx _ (nth_mem (k := 2) rfl)) (E.bx _ (nth_mem (k := 1) rfl)) ?_
  exact ⟨_, rfl, _, (false, ⟨#[]⟩, 0, false), rfl, E.ts, E.fr, .inr (.inl ⟨rfl, rfl, by omega, rfl⟩)⟩
 have h5 := of_decide_eq_false h5
 obtain rfl : K = 4 := by omega
 refine wp_skip ?_
 show Code.wp _ _ _ _ _
 refine wp_seq ?_
 refine wp_region_lit ?_
 refine lq hT (q_load rfl rfl (l_tree (by exact E.cell (k := 3) rfl rfl) (by exact E.cell (k := 3) rfl rfl))) fun x hT => ?_
 refine L_w hT rfl rfl rfl (w_callN rfl rfl (by kernel_rfl) (args := [_]) rfl (c_free (root := root) (c := c) E.ts hl hc)) ?_
 rintro _ w ⟨r, rfl, hr, m⟩ x hT
 have E := E.below m
 refine lq hT (q_assign rfl rfl) fun x hT => ?_
 refine wpList_nil ?_
 show Code.wp _ _ _ _ _
 refine wp_seq ?_
 refine wp_seq ?_
 refine wp_region_lit ?_
 refine lq hT (q_move rfl rfl) fun x hT => ?_
 refine lq hT (q_bin rfl rfl rfl n_lt) fun x hT => ?_
 refine wpList_nil ?_
 show Code.wp _ _ _ _ _
 rcases hr with rfl | ⟨f2, rfl, hf2⟩
 ·refine wp_cond_true (hT.ev rfl) ?_
  refine wp_seq ?_
  refine wp_region_lit ?_
  refine lq hT (q_load rfl rfl (l_tree (by exact E.cell (k := 3) rfl rfl) (by exact E.cell (k := 3) rfl rfl))) fun x hT => ?_
  refine lq hT (q_build1 rfl rfl (b_upF _)) fun x hT => ?_
  refine L_s hT rfl rfl (e_st2 2 E rfl rfl rfl rfl rfl rfl) ?_
  rintro _ w E
  refine L_s hT rfl rfl (e_stU 1 E rfl rfl rfl rfl rfl rfl rfl rfl) ?_
  rintro _ w E
  refine wpList_nil ?_
  show Code.wp _ _ _ _ _
  refine wp_ret ?_
  repeat refine then_ret ?_
  show bodyPost _ _ _ _ _ _
  refine ret_tu hT rfl rfl rfl (E.bx _ (nth_mem (k := 2) rfl)) (E.bx _ (nth_mem (k := 1) rfl)) ?_
  exact ⟨_, rfl, _, (false, ⟨#[]⟩, 0, true), rfl, E.ts, E.fr, .inl ⟨rfl, rfl⟩⟩
 have hf0 : decide ((f2 : Int) < 0) = false := decide_eq_false (by omega)
 have hf2l := (List.getElem?_eq_some_iff.1 hf2).1
 refine wp_cond_false ((hT.ev rfl).trans (congrArg Value.bool hf0)) ?_
 refine wp_skip ?_
 show Code.wp _ _ _ _ _
 refine wp_seq ?_
 refine wp_region_lit ?_
 refine lq hT (q_assign rfl rfl) fun x hT => ?_
 refine wpList_nil ?_
 show Code.wp _ _ _ _ _
 refine wp_seq ?_
 obtain ⟨kb1, rfl, hkc1⟩ := RD.sblk (E.row (k := 1) rfl) (by omega)
 obtain ⟨kb2, rfl, hkc2⟩ := RD.sblk (E.row (k := 0) rfl) (by omega)
 refine wp_region_M (n := 12) (Below w.drew.heap.size w.drew) [0, 1, 2, 3, 4, 5, 6, 7, 8, 9, 10] [] (by kernel_rfl) rfl ?_
 have hS := Below.refl w.drew.heap.size w.drew
 have E0 := E.below (below_drew w)
 have E := E0
 refine mq 0 [1, 10, 11] hT hS rfl (fun w' hw => q_field rfl rfl fT rfl) fun x hT => ?_
 refine mq 1 [10, 11] hT hS rfl (fun w' hw => q_load rfl rfl (l_sn (ck (by exact E0.cell (k := 3) rfl rfl) w' hw))) fun x hT => ?_
 refine mq 2 [10, 11] hT hS rfl (fun w' hw => q_move rfl rfl) fun x hT => ?_
 refine mq 3 [5, 9, 10, 11] hT hS rfl (fun w' hw => q_move rfl rfl) fun x hT => ?_
 refine mq 4 [5, 9, 10, 11] hT hS rfl (fun w' hw => q_move rfl rfl) fun x hT => ?_
 refine mq 5 [9, 10, 11] hT hS rfl (fun w' hw => q_slice rfl rfl (LO := none) (HI := some _) rfl rfl (sl_s_hi (m := 3) (by omega))) fun x hT => ?_
 refine mq 6 [8, 9, 10, 11] hT hS rfl (fun w' hw => q_move rfl rfl) fun x hT => ?_
 refine mq 7 [8, 9, 10, 11] hT hS rfl (fun w' hw => q_move rfl rfl) fun x hT => ?_
 refine mq 8 [9, 10, 11] hT hS rfl (fun w' hw => q_slice rfl rfl (LO := none) (HI := some _) rfl rfl (sl_s_hi (m := 3) (by omega))) fun x hT => ?_
 refine M_one 9 (by kernel_rfl) ?_
 refine at_w hT rfl rfl rfl rfl (w_callN rfl rfl (by kernel_rfl) (args := [_, _]) rfl (c_leafOf E.hBw ((RD.ss (E.row (k := 1) rfl)).take (m := 3) (by omega)) ((RD.ss (E.row (k := 0) rfl)).take (m := 3) (by omega)) (by omega) (by omega))) ?_
 rintro _ w ⟨r3, m⟩ x hT
 have hS := hS.trans (m.mono hS.size)
 have E := E.below m
 refine ⟨fun _ _ => hS, ?_⟩
 refine mq 10 [11] hT hS rfl (fun w' hw => q_index rfl rfl rfl (i_node (by omega))) fun x hT => ?_
 refine M_one 11 (by kernel_rfl) ?_
 refine at_s hT rfl rfl rfl (e_stN E rfl rfl rfl r3 hlt) ?_
 rintro _ w E
 refine ⟨fun h => absurd h (by decide), ?_⟩
 refine M_end (by kernel_rfl) ?_
 show Code.wp _ _ _ _ _
 refine wp_seq ?_
 refine wp_region_M (n := 12) (Below w.drew.heap.size w.drew) [0, 1, 2, 3, 4, 5, 6, 7, 8, 9, 10] [] (by kernel_rfl) rfl ?_
 have hS := Below.refl w.drew.heap.size w.drew
 have E0 := E.below (below_drew w)
 have E := E0
 refine mq 0 [1, 10, 11] hT hS rfl (fun w' hw => q_field rfl rfl fT rfl) fun x hT => ?_
 refine mq 1 [10, 11] hT hS rfl (fun w' hw => q_load rfl rfl (l_sn (ck (by exact E0.cell (k := 3) rfl rfl) w' hw))) fun x hT => ?_
 refine mq 2 [10, 11] hT hS rfl (fun w' hw => q_move rfl rfl) fun x hT => ?_
 refine mq 3 [5, 9, 10, 11] hT hS rfl (fun w' hw => q_move rfl rfl) fun x hT => ?_
 refine mq 4 [5, 9, 10, 11] hT hS rfl (fun w' hw => q_move rfl rfl) fun x hT => ?_
 refine mq 5 [9, 10, 11] hT hS rfl (fun w' hw => q_slice rfl rfl (LO := some _) (HI := none) rfl rfl (sl_s_lo (m := 3) (by omega) (by omega))) fun x hT => ?_
 refine mq 6 [8, 9, 10, 11] hT hS rfl (fun w' hw => q_move rfl rfl) fun x hT => ?_
 refine mq 7 [8, 9, 10, 11] hT hS rfl (fun w' hw => q_move rfl rfl) fun x hT => ?_
 refine mq 8 [9, 10, 11] hT hS rfl (fun w' hw => q_slice rfl rfl (LO := some _) (HI := none) rfl rfl (sl_s_lo (m := 3) (by omega) (by omega))) fun x hT => ?_
 refine M_one 9 (by kernel_rfl) ?_
 refine at_w hT rfl rfl rfl rfl (w_callN rfl rfl (by kernel_rfl) (args := [_, _]) rfl (c_leafOf E.hBw ((RD.ss (E.row (k := 1) rfl)).drop (m := 3) (by omega)) ((RD.ss (E.row (k := 0) rfl)).drop (m := 3) (by omega)) (by omega) (by omega))) ?_
 rintro _ w ⟨r3, m⟩ x hT
 have hS := hS.trans (m.mono hS.size)
 have E := E.below m
 refine ⟨fun _ _ => hS, ?_⟩
 refine mq 10 [11] hT hS rfl (fun w' hw => q_index rfl rfl rfl (i_node (by omega))) fun x hT => ?_
 refine M_one 11 (by kernel_rfl) ?_
 refine at_s hT rfl rfl rfl (e_stN E rfl rfl rfl r3 (by rw [List.length_set]; exact hf2l)) ?_
 rintro _ w E
 refine ⟨fun h => absurd h (by decide), ?_⟩
 refine M_end (by kernel_rfl) ?_
 show Code.wp _ _ _ _ _
 refine wp_seq ?_
 obtain ⟨s3, hs3⟩ := RD.sat ((E.below (below_drew w)).row (k := 1) rfl) (j := 3) (by omega)
 have hne3 := E.ner (k := 2) rfl (E.row (k := 1) rfl)
 refine wp_region_M (n := 9) (But b8 w.drew) [0, 1, 2, 3, 4, 5, 6, 7] [] (by kernel_rfl) rfl ?_
 have hS := But.refl b8 w.drew
 have E0 := E.below (below_drew w)
 have E := E0
 refine mq 0 [7, 8] hT hS rfl (fun w' hw => q_load rfl rfl (l_tree (by exact cb (E0.cell (k := 3) rfl rfl) (E0.neb (k := 3) (k2 := 2) rfl rfl (by decide)) w' hw) (by exact cb (E0.cell (k := 3) rfl rfl) (E0.neb (k := 3) (k2 := 2) rfl rfl (by decide)) w' hw))) fun x hT => ?_
 refine mq 1 [3, 4, 6, 8] hT hS rfl (fun w' hw => q_move rfl rfl) fun x hT => ?_
 refine mq 2 [3, 4, 6, 8] hT hS rfl (fun w' hw => q_move rfl rfl) fun x hT => ?_
 refine mq 3 [4, 6, 8] hT hS rfl (fun w' hw => q_index rfl rfl rfl (i_str (k := 3) (by omega))) fun x hT => ?_
 refine mq 4 [6, 8] hT hS rfl (fun w' hw => q_load rfl rfl (l_str (cb hs3 hne3 w' hw))) fun x hT => ?_
 refine mq 5 [6, 8] hT hS rfl (fun w' hw => q_move rfl rfl) fun x hT => ?_
 refine mq 6 [8] hT hS rfl (fun w' hw => q_build3 rfl rfl rfl rfl (b_upS _ _ _)) fun x hT => ?_
 refine M_one 7 (by kernel_rfl) ?_
 refine at_s hT rfl rfl rfl (e_st2k 2 E rfl rfl rfl rfl rfl rfl) ?_
 rintro _ w ⟨E, hk⟩
 have hS := hS.store hk
 refine ⟨fun _ _ => hS, ?_⟩
 refine M_one 8 (by kernel_rfl) ?_
 refine at_s hT rfl rfl rfl (e_stU 1 E rfl rfl rfl rfl rfl rfl rfl rfl) ?_
 rintro _ w E
 refine ⟨fun h => absurd h (by decide), ?_⟩
 refine M_end (by kernel_rfl) ?_
 show Code.wp _ _ _ _ _
 refine wp_ret ?_
 repeat refine then_ret ?_
 show bodyPost _ _ _ _ _ _
 refine ret_tu hT rfl rfl rfl (E.bx _ (nth_mem (k := 2) rfl)) (E.bx _ (nth_mem (k := 1) rfl)) ?_
 exact ⟨_, rfl, _, (true, s3, (f2 : Int), false), rfl, E.ts, E.fr, .inr (.inr ⟨f2, rfl, rfl, rfl, hf2l, hf2, rfl, rfl⟩)⟩
end Go.Proofs.Ytcolgghllacloaa.Tm
end

section
namespace Go.Proofs.Ytcolgghllacloaa.Tm
open Go.Rf (RowIn strs ints rep nodeT ownL blk Src IsLow IsUp)
open Go.Proofs.Ytcolgghllacloaa.R (okLen)
open Go.RowKit Go.Proofs.Ytcolgghllacloaa.Q Go.Proofs.YtcolgghllacloaaW.PrintWords Go.Proofs.YtcolgghllacloaaW.PrintLast Go.Proofs.YtcolgghllacloaaW.PrintMore
abbrev UpT := Bool × ByteArray × Int × Bool
def PutV (w : World) (B g c : Nat) (root : Int) (S : List Sk) (lv : Nat → Nat) (rt at' : Nat) : Value → World → Prop := fun v w' => ∃ (S' : List Sk) (u : UpT), v = .tuple #[tv root g S.length c, upv u] ∧ TS w' B g S' ∧ Fr B g w w' ∧ (u.2.2.2 = true ∨ PutR S lv rt at' S' u.1 u.2.2.1)
section
variable {S S1 : List Sk} {lv : Nat → Nat} {rt : Nat}
theorem put_same (h : WF S lv rt x0) {at' j : Nat} {node node' : Int} (hat : ∃ s, S[at']? = some s ∧ s ≠ zS) (hlv : lv j + 1 = lv at') (hp : PutR S lv rt j S1 false node) : PutR S lv rt at' S1 false node' := by
 obtain ⟨lv1, w1, l1, k1, _, _⟩ := hp
 obtain ⟨s, h1, h2⟩ := (l1 at' hat).2
 exact ⟨lv1, w1, l1, fun i hi hz => k1 i (by omega) hz, ⟨s, h1, h2, fun e => by cases e⟩, fun e => by cases e⟩
theorem ins_nodup {l : List Int} {x : Int} (h : l.Nodup) (hx : x ∉ l) (i : Nat) : (l.take i ++ [x] ++ l.drop i).Nodup := by
 have e : l = l.take i ++ l.drop i := (List.take_append_drop i l).symm
 have h0 := h
 rw [e] at h0
 obtain ⟨h1, h2, h3⟩ := List.nodup_append.1 h0
 refine List.nodup_append.2 ⟨List.nodup_append.2 ⟨h1, List.nodup_cons.2 ⟨by simp, List.nodup_nil⟩, fun a ha b hb e => ?_⟩, h2, fun a ha b hb e => ?_⟩
 ·obtain rfl := List.mem_singleton.1 hb
  subst e
  exact hx (List.mem_of_mem_take ha)
 ·subst e
  rcases List.mem_append.1 ha with ha | ha
  ·exact h3 a ha a hb rfl
  ·obtain rfl := List.mem_singleton.1 ha
   exact hx (List.mem_of_mem_drop hb)
theorem ins_mem {l : List Int} {x : Int} {i : Nat} : ∀ k ∈ l.take i ++ [x] ++ l.drop i, k ∈ l ∨ k = x := fun k hk => by
 rcases List.mem_append.1 hk with hk | hk
 ·rcases List.mem_append.1 hk with hk | hk
  ·exact .inl (List.mem_of_mem_take hk)
  ·exact .inr (List.mem_singleton.1 hk)
 ·exact .inl (List.mem_of_mem_drop hk)
theorem ins_len {l : List Int} {x : Int} {i : Nat} (hi : i ≤ l.length) : (l.take i ++ [x] ++ l.drop i).length = l.length + 1 := by
 simp
 omega
end
set_option maxRecDepth 100000 in
set_option maxHeartbeats 4000000 in
theorem put_any (B g c : Nat) (root : Int) (key val : ByteArray) (S : List Sk) (lv : Nat → Nat) (rt : Nat) (hc : S.length ≤ c) (hw : WF S lv rt x0) : ∀ (d at' : Nat), lv at' < d → ∀ wz : World, B ≤ wz.heap.size → TS wz B g S → (∃ s, S[at']? = some s ∧ s ≠ zS) →
  Calls Try.prog 76 #[tv root g S.length c, .int .i64 (at' : Int), .string key, .string val] wz (Ans (PutV wz B g c root S lv rt at')) := by
 have hl := hw.len
 intro d
 induction d with
 | zero => intro at' h; omega
 | succ d ih =>
 intro at' hd wz hB hS0 hnz
 obtain ⟨s, hs, hz⟩ := hnz
 have hlt := (List.getElem?_eq_some_iff.1 hs).1
 obtain ⟨lf, K, V, kids, rfl, hleaf, hinner⟩ := hw.shape hs hz
 cases lf with
 | true =>
  obtain ⟨hV0, hI0, _⟩ := hleaf rfl
  subst hV0 hI0
  have h4 := hw.four at' _ hs
  simp only at h4
  have E := Env.start hB hS0
  refine enter (args := [tv root g S.length c, .int .i64 (at' : Int), .string key, .string val]) Try.func76 rfl Try.ntmps76 rfl ?_
  intro x hT
  refine wp_seq ?_
  refine wp_region_lit ?_
  refine L_w hT rfl rfl rfl (e_box E rfl rfl) ?_
  rintro _ w ⟨b4, rfl, E, m⟩ x hT
  refine L_w hT rfl rfl rfl (e_tree E rfl) ?_
  rintro _ w ⟨b8, rfl, E, m⟩ x hT
  refine L_w hT rfl rfl rfl (e_up E rfl) ?_
  rintro _ w ⟨b9, rfl, E, m⟩ x hT
  refine wpList_nil ?_
  show Code.wp _ _ _ _ _
  refine wp_seq ?_
  refine wp_seq ?_
  obtain ⟨uA, uc, uA2, uc2, uA3, uc3, q0, q1, q2, q3, E⟩ := E.readf hs
  refine wp_region_lit ?_
  refine lq hT (q_field rfl rfl fT rfl) fun x hT => ?_
  refine lq hT (q_load rfl rfl (l_sn (by exact E.cell (k := 2) rfl rfl))) fun x hT => ?_
  refine lq hT (q_move rfl rfl) fun x hT => ?_
  refine lq hT (q_index rfl rfl rfl (i_node (by omega))) fun x hT => ?_
  refine lq hT (q_field rfl rfl fN rfl) fun x hT => ?_
  refine lq hT (q_load rfl rfl (l_bool q0)) fun x hT => ?_
  refine wpList_nil ?_
  show Code.wp _ _ _ _ _
  refine wp_cond_true (hT.ev rfl) ?_
  refine wp_seq ?_
  refine wp_region_lit ?_
  refine lq hT (q_load rfl rfl (l_tree (by exact E.cell (k := 2) rfl rfl) (by exact E.cell (k := 2) rfl rfl))) fun x hT => ?_
  refine lq hT (q_move rfl rfl) fun x hT => ?_
  refine lq hT (q_move rfl rfl) fun x hT => ?_
  refine lq hT (q_move rfl rfl) fun x hT => ?_
  refine L_w hT rfl rfl rfl (w_callN rfl rfl (by kernel_rfl) (args := [_, _, _, _]) rfl (putLeaf2 w B g c root S at' _ key val E.hBw E.ts (by omega) hc hs h4)) ?_
  rintro _ w ⟨S1, u, rfl, hT1, hF1, hP⟩ x hT
  have E := E.step hF1 hT1
  refine lq hT (q_extract rfl rfl rfl) fun x hT => ?_
  refine lq hT (q_extract rfl rfl rfl) fun x hT => ?_
  refine L_s hT rfl rfl (e_st2 1 E rfl rfl rfl rfl rfl rfl) ?_
  rintro _ w E
  refine L_s hT rfl rfl (e_stU 0 E rfl rfl rfl rfl rfl rfl rfl rfl) ?_
  rintro _ w E
  refine wpList_nil ?_
  show Code.wp _ _ _ _ _
  refine wp_ret ?_
  repeat refine then_ret ?_
  show bodyPost _ _ _ _ _ _
  refine ret_tu hT rfl rfl rfl (E.bx _ (nth_mem (k := 1) rfl)) (E.bx _ (nth_mem (k := 0) rfl)) ?_
  refine ⟨_, rfl, S1, u, rfl, E.ts, E.fr, ?_⟩
  rcases hP with ⟨h1, rfl⟩ | ⟨h1, _, h2, rfl⟩ | ⟨f, h1, _, h2, _, h3, rfl, rfl⟩
  ·rw [h1]
   obtain ⟨lv1, w1, l1, k1, k2, _⟩ := put_leaf_same hw hs hz
   exact .inr ⟨lv1, w1, l1, k1, k2, fun e => by cases e⟩
  ·rw [h1]
   exact .inr (put_leaf_in hw hs h2 _)
  ·rw [h1, h2]
   exact .inr (put_leaf_split hw hs h3)
 | false =>
  obtain ⟨hV0, hkl, hlv0⟩ := hinner rfl
  have h4 := hw.four at' _ hs
  simp only at h4
  have hK1 : 1 ≤ K := by
   have := (hw.min at' _ hs hz).2 rfl
   simpa only [x0, Nat.add_zero] using this
  have E := Env.start hB hS0
  refine enter (args := [tv root g S.length c, .int .i64 (at' : Int), .string key, .string val]) Try.func76 rfl Try.ntmps76 rfl ?_
  intro x hT
  refine wp_seq ?_
  refine wp_region_lit ?_
  refine L_w hT rfl rfl rfl (e_box E rfl rfl) ?_
  rintro _ w ⟨b4, rfl, E, m⟩ x hT
  refine L_w hT rfl rfl rfl (e_tree E rfl) ?_
  rintro _ w ⟨b8, rfl, E, m⟩ x hT
  refine L_w hT rfl rfl rfl (e_up E rfl) ?_
  rintro _ w ⟨b9, rfl, E, m⟩ x hT
  refine wpList_nil ?_
  show Code.wp _ _ _ _ _
  refine wp_seq ?_
  refine wp_seq ?_
  obtain ⟨uA, uc, uA2, uc2, uA3, uc3, q0, q1, q2, q3, E⟩ := E.readf hs
  refine wp_region_lit ?_
  refine lq hT (q_field rfl rfl fT rfl) fun x hT => ?_
  refine lq hT (q_load rfl rfl (l_sn (by exact E.cell (k := 2) rfl rfl))) fun x hT => ?_
  refine lq hT (q_move rfl rfl) fun x hT => ?_
  refine lq hT (q_index rfl rfl rfl (i_node (by omega))) fun x hT => ?_
  refine lq hT (q_field rfl rfl fN rfl) fun x hT => ?_
  refine lq hT (q_load rfl rfl (l_bool q0)) fun x hT => ?_
  refine wpList_nil ?_
  show Code.wp _ _ _ _ _
  refine wp_cond_false (hT.ev rfl) ?_
  refine wp_skip ?_
  show Code.wp _ _ _ _ _
  refine wp_seq ?_
  refine wp_region_lit ?_
  refine lq hT (q_field rfl rfl fT rfl) fun x hT => ?_
  refine lq hT (q_load rfl rfl (l_sn (by exact E.cell (k := 2) rfl rfl))) fun x hT => ?_
  refine lq hT (q_move rfl rfl) fun x hT => ?_
  refine lq hT (q_index rfl rfl rfl (i_node (by omega))) fun x hT => ?_
  refine lq hT (q_field rfl rfl fN rfl) fun x hT => ?_
  refine lq hT (q_load rfl rfl (l_ss q1)) fun x hT => ?_
  refine lq hT (q_move rfl rfl) fun x hT => ?_
  refine L_w hT rfl rfl rfl (w_callN rfl rfl (by kernel_rfl) (args := [_, _]) rfl (c_kid (RD.ss (E.row (k := 0) rfl)) (by omega))) ?_
  rintro _ w ⟨p, rfl, hp, m⟩ x hT
  have E := E.below m
  have q3 := ck q3 _ m
  refine lq hT (q_assign rfl rfl) fun x hT => ?_
  refine wpList_nil ?_
  obtain ⟨q, hq⟩ : ∃ q, kids[p]? = some q := ⟨_, List.getElem?_eq_getElem (by omega)⟩
  obtain ⟨j, rfl, hjr, hjz, hlj⟩ := hw.at_kid hs hq
  obtain ⟨kb, rfl, hkc⟩ := RD.iblk (E.row (k := 2) rfl) (by omega)
  have i1 := RD.iat ((E.below (below_drew w)).row (k := 2) rfl) hq
  have q3 := ck q3 _ (below_drew w)
  show Code.wp _ _ _ _ _
  refine wp_seq ?_
  refine wp_cut (fun x w => ∃ (b11 b12 : Nat) (S1 : List Sk) (u : UpT), hT.keepP [(11, .pointer (some ⟨b11, 0, none⟩)), (12, .pointer (some ⟨b12, 0, none⟩))] [1, 2, 3, 4, 8, 9, 10] x ∧ E.atP [(b11, 30, [.int .i64 root, .slice (some ⟨g, 0, none⟩) S.length c]), (b12, 109, [.bool u.1, .string u.2.1, .int .i64 u.2.2.1, .bool u.2.2.2])] S1 w ∧ (u.2.2.2 = true ∨ PutR S lv rt j S1 u.1 u.2.2.1)) ?_ ?_
  ·refine wp_region_M (n := 20) (Below w.drew.heap.size w.drew) [0, 1, 2, 3, 4, 5, 6, 7, 8, 9, 10, 11, 16, 17] [12] (by kernel_rfl) rfl ?_
   have hS := Below.refl w.drew.heap.size w.drew
   have E0 := E.below (below_drew w)
   have E := E0
   refine mQ 0 [12, 13, 14, 15, 18, 19] hT hS rfl (fun w' hw => q_load rfl rfl (l_tree (ck (by exact E0.cell (k := 2) rfl rfl) w' hw) (ck (by exact E0.cell (k := 2) rfl rfl) w' hw))) fun x hT => ?_
   refine mQ 1 [2, 4, 5, 6, 8, 9, 12, 13, 14, 15, 18, 19] hT hS rfl (fun w' hw => q_field rfl rfl fT rfl) fun x hT => ?_
   refine mQ 2 [4, 5, 6, 8, 9, 12, 13, 14, 15, 18, 19] hT hS rfl (fun w' hw => q_load rfl rfl (l_sn (ck (by exact E0.cell (k := 2) rfl rfl) w' hw))) fun x hT => ?_
   refine mQ 3 [4, 5, 6, 8, 9, 12, 13, 14, 15, 18, 19] hT hS rfl (fun w' hw => q_move rfl rfl) fun x hT => ?_
   refine mQ 4 [5, 6, 8, 9, 12, 13, 14, 15, 18, 19] hT hS rfl (fun w' hw => q_index rfl rfl rfl (i_node (by omega))) fun x hT => ?_
   refine mQ 5 [6, 8, 9, 12, 13, 14, 15, 18, 19] hT hS rfl (fun w' hw => q_field rfl rfl fN rfl) fun x hT => ?_
   refine mQ 6 [8, 9, 12, 13, 14, 15, 18, 19] hT hS rfl (fun w' hw => q_load rfl rfl (l_si (ck q3 w' hw))) fun x hT => ?_
   refine mQ 7 [8, 9, 12, 13, 14, 15, 18, 19] hT hS rfl (fun w' hw => q_move rfl rfl) fun x hT => ?_
   refine mQ 8 [9, 12, 13, 14, 15, 18, 19] hT hS rfl (fun w' hw => q_index rfl rfl rfl (i_int (by omega))) fun x hT => ?_
   refine mQ 9 [12, 13, 14, 15, 18, 19] hT hS rfl (fun w' hw => q_load rfl rfl (l_int (ck i1 w' hw))) fun x hT => ?_
   refine mQ 10 [12, 13, 14, 15, 18, 19] hT hS rfl (fun w' hw => q_move rfl rfl) fun x hT => ?_
   refine mQ 11 [12, 13, 14, 15, 18, 19] hT hS rfl (fun w' hw => q_move rfl rfl) fun x hT => ?_
   refine M_three 12 16 17 (by kernel_rfl) ?_ ?_ ?_
   ·refine at_w hT rfl rfl rfl rfl (w_callN rfl rfl (by kernel_rfl) (args := [_, _, _, _]) rfl (ih j (by omega) _ E.hBw E.ts hjz)) ?_
    rintro _ w ⟨S1, u, rfl, hT1, hF1, hR1⟩ x hT
    have E := E.step hF1 hT1
    refine ⟨fun h => absurd h (by decide), ?_⟩
    refine M_q0 13 hT rfl (by kernel_rfl) rfl rfl rfl (fun _ _ _ h => nomatch h.1) (fun w' => q_move rfl rfl) ?_
    intro x hT
    refine M_q0 14 hT rfl (by kernel_rfl) rfl rfl rfl (fun _ _ _ h => nomatch h.1) (fun w' => q_extract rfl rfl rfl) ?_
    intro x hT
    refine M_q0 15 hT rfl (by kernel_rfl) rfl rfl rfl (fun _ _ _ h => nomatch h.1) (fun w' => q_extract rfl rfl rfl) ?_
    intro x hT
    refine M_two 16 17 (by kernel_rfl) ?_ ?_
    ·refine at_w hT rfl rfl rfl rfl (e_tree E rfl) ?_
     rintro _ w ⟨b11, rfl, E, m⟩ x hT
     refine ⟨fun _ hc => (late 12 hc (by decide) (by kernel_rfl)).elim, ?_⟩
     refine M_one 17 (by kernel_rfl) ?_
     refine at_w hT rfl rfl rfl rfl (e_up E rfl) ?_
     rintro _ w ⟨b12, rfl, E, m⟩ x hT
     refine ⟨fun _ hc => (late 12 hc (by decide) (by kernel_rfl)).elim, ?_⟩
     refine M_one 18 (by kernel_rfl) ?_
     refine at_s hT rfl rfl rfl (e_st2 1 E rfl rfl rfl rfl rfl rfl) ?_
     rintro _ w E
     refine ⟨fun h => absurd h (by decide), ?_⟩
     refine M_one 19 (by kernel_rfl) ?_
     refine at_s hT rfl rfl rfl (e_stU 0 E rfl rfl rfl rfl rfl rfl rfl rfl) ?_
     rintro _ w E
     refine ⟨fun h => absurd h (by decide), ?_⟩
     refine M_end (by kernel_rfl) ?_
     exact ⟨rfl, _, _, S1, u, hT.sel [11, 12, 1, 2, 3, 4, 8, 9, 10], E.swap, hR1⟩
    ·refine at_w hT rfl rfl rfl rfl (e_up E rfl) ?_
     rintro _ w ⟨b12, rfl, E, m⟩ x hT
     refine ⟨fun _ hc => (late 12 hc (by decide) (by kernel_rfl)).elim, ?_⟩
     refine M_one 16 (by kernel_rfl) ?_
     refine at_w hT rfl rfl rfl rfl (e_tree E rfl) ?_
     rintro _ w ⟨b11, rfl, E, m⟩ x hT
     refine ⟨fun _ hc => (late 12 hc (by decide) (by kernel_rfl)).elim, ?_⟩
     refine M_one 18 (by kernel_rfl) ?_
     refine at_s hT rfl rfl rfl (e_st2 0 E rfl rfl rfl rfl rfl rfl) ?_
     rintro _ w E
     refine ⟨fun h => absurd h (by decide), ?_⟩
     refine M_one 19 (by kernel_rfl) ?_
     refine at_s hT rfl rfl rfl (e_stU 1 E rfl rfl rfl rfl rfl rfl rfl rfl) ?_
     rintro _ w E
     refine ⟨fun h => absurd h (by decide), ?_⟩
     refine M_end (by kernel_rfl) ?_
     exact ⟨rfl, _, _, S1, u, hT.sel [11, 12, 1, 2, 3, 4, 8, 9, 10], E, hR1⟩
   ·refine at_w hT rfl rfl rfl rfl (e_tree E rfl) ?_
    rintro _ w ⟨b11, rfl, E, m⟩ x hT
    have hS := hS.trans (m.mono hS.size)
    refine ⟨fun _ _ => hS, ?_⟩
    refine M_two 12 17 (by kernel_rfl) ?_ ?_
    ·refine at_w hT rfl rfl rfl rfl (w_callN rfl rfl (by kernel_rfl) (args := [_, _, _, _]) rfl (ih j (by omega) _ E.hBw E.ts hjz)) ?_
     rintro _ w ⟨S1, u, rfl, hT1, hF1, hR1⟩ x hT
     have E := E.step hF1 hT1
     refine ⟨fun h => absurd h (by decide), ?_⟩
     refine M_q0 13 hT rfl (by kernel_rfl) rfl rfl rfl (fun _ _ _ h => nomatch h.1) (fun w' => q_move rfl rfl) ?_
     intro x hT
     refine M_q0 14 hT rfl (by kernel_rfl) rfl rfl rfl (fun _ _ _ h => nomatch h.1) (fun w' => q_extract rfl rfl rfl) ?_
     intro x hT
     refine M_q0 15 hT rfl (by kernel_rfl) rfl rfl rfl (fun _ _ _ h => nomatch h.1) (fun w' => q_extract rfl rfl rfl) ?_
     intro x hT
     refine M_one 17 (by kernel_rfl) ?_
     refine at_w hT rfl rfl rfl rfl (e_up E rfl) ?_
     rintro _ w ⟨b12, rfl, E, m⟩ x hT
     refine ⟨fun _ hc => (late 12 hc (by decide) (by kernel_rfl)).elim, ?_⟩
     refine M_one 18 (by kernel_rfl) ?_
     refine at_s hT rfl rfl rfl (e_st2 1 E rfl rfl rfl rfl rfl rfl) ?_
     rintro _ w E
     refine ⟨fun h => absurd h (by decide), ?_⟩
     refine M_one 19 (by kernel_rfl) ?_
     refine at_s hT rfl rfl rfl (e_stU 0 E rfl rfl rfl rfl rfl rfl rfl rfl) ?_
     rintro _ w E
     refine ⟨fun h => absurd h (by decide), ?_⟩
     refine M_end (by kernel_rfl) ?_
     exact ⟨rfl, _, _, S1, u, hT.sel [11, 12, 1, 2, 3, 4, 8, 9, 10], E.swap, hR1⟩
    ·refine at_w hT rfl rfl rfl rfl (e_up E rfl) ?_
     rintro _ w ⟨b12, rfl, E, m⟩ x hT
     have hS := hS.trans (m.mono hS.size)
     refine ⟨fun _ _ => hS, ?_⟩
     refine M_one 12 (by kernel_rfl) ?_
     refine at_w hT rfl rfl rfl rfl (w_callN rfl rfl (by kernel_rfl) (args := [_, _, _, _]) rfl (ih j (by omega) _ E.hBw E.ts hjz)) ?_
     rintro _ w ⟨S1, u, rfl, hT1, hF1, hR1⟩ x hT
     have E := E.step hF1 hT1
     refine ⟨fun h => absurd h (by decide), ?_⟩
     refine M_q0 13 hT rfl (by kernel_rfl) rfl rfl rfl (fun _ _ _ h => nomatch h.1) (fun w' => q_move rfl rfl) ?_
     intro x hT
     refine M_q0 14 hT rfl (by kernel_rfl) rfl rfl rfl (fun _ _ _ h => nomatch h.1) (fun w' => q_extract rfl rfl rfl) ?_
     intro x hT
     refine M_q0 15 hT rfl (by kernel_rfl) rfl rfl rfl (fun _ _ _ h => nomatch h.1) (fun w' => q_extract rfl rfl rfl) ?_
     intro x hT
     refine M_one 18 (by kernel_rfl) ?_
     refine at_s hT rfl rfl rfl (e_st2 1 E rfl rfl rfl rfl rfl rfl) ?_
     rintro _ w E
     refine ⟨fun h => absurd h (by decide), ?_⟩
     refine M_one 19 (by kernel_rfl) ?_
     refine at_s hT rfl rfl rfl (e_stU 0 E rfl rfl rfl rfl rfl rfl rfl rfl) ?_
     rintro _ w E
     refine ⟨fun h => absurd h (by decide), ?_⟩
     refine M_end (by kernel_rfl) ?_
     exact ⟨rfl, _, _, S1, u, hT.sel [11, 12, 1, 2, 3, 4, 8, 9, 10], E.swap, hR1⟩
   ·refine at_w hT rfl rfl rfl rfl (e_up E rfl) ?_
    rintro _ w ⟨b12, rfl, E, m⟩ x hT
    have hS := hS.trans (m.mono hS.size)
    refine ⟨fun _ _ => hS, ?_⟩
    refine M_two 12 16 (by kernel_rfl) ?_ ?_
    ·refine at_w hT rfl rfl rfl rfl (w_callN rfl rfl (by kernel_rfl) (args := [_, _, _, _]) rfl (ih j (by omega) _ E.hBw E.ts hjz)) ?_
     rintro _ w ⟨S1, u, rfl, hT1, hF1, hR1⟩ x hT
     have E := E.step hF1 hT1
     refine ⟨fun h => absurd h (by decide), ?_⟩
     refine M_q0 13 hT rfl (by kernel_rfl) rfl rfl rfl (fun _ _ _ h => nomatch h.1) (fun w' => q_move rfl rfl) ?_
     intro x hT
     refine M_q0 14 hT rfl (by kernel_rfl) rfl rfl rfl (fun _ _ _ h => nomatch h.1) (fun w' => q_extract rfl rfl rfl) ?_
     intro x hT
     refine M_q0 15 hT rfl (by kernel_rfl) rfl rfl rfl (fun _ _ _ h => nomatch h.1) (fun w' => q_extract rfl rfl rfl) ?_
     intro x hT
     refine M_one 16 (by kernel_rfl) ?_
     refine at_w hT rfl rfl rfl rfl (e_tree E rfl) ?_
     rintro _ w ⟨b11, rfl, E, m⟩ x hT
     refine ⟨fun _ hc => (late 12 hc (by decide) (by kernel_rfl)).elim, ?_⟩
     refine M_one 18 (by kernel_rfl) ?_
     refine at_s hT rfl rfl rfl (e_st2 0 E rfl rfl rfl rfl rfl rfl) ?_
     rintro _ w E
     refine ⟨fun h => absurd h (by decide), ?_⟩
     refine M_one 19 (by kernel_rfl) ?_
     refine at_s hT rfl rfl rfl (e_stU 1 E rfl rfl rfl rfl rfl rfl rfl rfl) ?_
     rintro _ w E
     refine ⟨fun h => absurd h (by decide), ?_⟩
     refine M_end (by kernel_rfl) ?_
     exact ⟨rfl, _, _, S1, u, hT.sel [11, 12, 1, 2, 3, 4, 8, 9, 10], E, hR1⟩
    ·refine at_w hT rfl rfl rfl rfl (e_tree E rfl) ?_
     rintro _ w ⟨b11, rfl, E, m⟩ x hT
     have hS := hS.trans (m.mono hS.size)
     refine ⟨fun _ _ => hS, ?_⟩
     refine M_one 12 (by kernel_rfl) ?_
     refine at_w hT rfl rfl rfl rfl (w_callN rfl rfl (by kernel_rfl) (args := [_, _, _, _]) rfl (ih j (by omega) _ E.hBw E.ts hjz)) ?_
     rintro _ w ⟨S1, u, rfl, hT1, hF1, hR1⟩ x hT
     have E := E.step hF1 hT1
     refine ⟨fun h => absurd h (by decide), ?_⟩
     refine M_q0 13 hT rfl (by kernel_rfl) rfl rfl rfl (fun _ _ _ h => nomatch h.1) (fun w' => q_move rfl rfl) ?_
     intro x hT
     refine M_q0 14 hT rfl (by kernel_rfl) rfl rfl rfl (fun _ _ _ h => nomatch h.1) (fun w' => q_extract rfl rfl rfl) ?_
     intro x hT
     refine M_q0 15 hT rfl (by kernel_rfl) rfl rfl rfl (fun _ _ _ h => nomatch h.1) (fun w' => q_extract rfl rfl rfl) ?_
     intro x hT
     refine M_one 18 (by kernel_rfl) ?_
     refine at_s hT rfl rfl rfl (e_st2 0 E rfl rfl rfl rfl rfl rfl) ?_
     rintro _ w E
     refine ⟨fun h => absurd h (by decide), ?_⟩
     refine M_one 19 (by kernel_rfl) ?_
     refine at_s hT rfl rfl rfl (e_stU 1 E rfl rfl rfl rfl rfl rfl rfl rfl) ?_
     rintro _ w E
     refine ⟨fun h => absurd h (by decide), ?_⟩
     refine M_end (by kernel_rfl) ?_
     exact ⟨rfl, _, _, S1, u, hT.sel [11, 12, 1, 2, 3, 4, 8, 9, 10], E, hR1⟩
  rintro x w ⟨b11, b12, S1, u, hT, E, hR1⟩
  unfold Tm.keepP at hT
  unfold Env.atP at E
  obtain ⟨usp, ukey, unode, uful⟩ := u
  simp only at hT E hR1
  clear q0 q1 q2 q3 i1
  show Code.wp _ _ _ _ _
  refine wp_seq ?_
  refine wp_seq ?_
  cases uful with
  | true =>
   refine wp_region_lit ?_
   refine lq hT (q_field rfl rfl fU rfl) fun x hT => ?_
   refine lq hT (q_load rfl rfl (l_bool (by exact E.cell (k := 1) rfl rfl))) fun x hT => ?_
   refine lq hT (q_move rfl rfl) fun x hT => ?_
   refine L_qn hT rfl rfl rfl rfl rfl rfl rfl ?_
   intro x hT
   refine L_qn hT rfl rfl rfl rfl rfl rfl rfl ?_
   intro x hT
   refine L_qn hT rfl rfl rfl rfl rfl rfl rfl ?_
   intro x hT
   refine lq hT (q_pick_t rfl rfl rfl) fun x hT => ?_
   refine wpList_nil ?_
   show Code.wp _ _ _ _ _
   refine wp_cond_true (hT.ev rfl) ?_
   refine wp_seq ?_
   refine wp_region_M (n := 4) (But b8 w.drew) [0, 1, 2] [] (by kernel_rfl) rfl ?_
   have hS := But.refl b8 w.drew
   have E0 := E.below (below_drew w)
   have E := E0
   refine mq 0 [2, 3] hT hS rfl (fun w' hw => q_load rfl rfl (l_tree (by exact cb (E0.cell (k := 0) rfl rfl) (E0.neb (k := 0) (k2 := 3) rfl rfl (by decide)) w' hw) (by exact cb (E0.cell (k := 0) rfl rfl) (E0.neb (k := 0) (k2 := 3) rfl rfl (by decide)) w' hw))) fun x hT => ?_
   refine mq 1 [3] hT hS rfl (fun w' hw => q_load rfl rfl (l_up (by exact cb (E0.cell (k := 1) rfl rfl) (E0.neb (k := 1) (k2 := 3) rfl rfl (by decide)) w' hw) (by exact cb (E0.cell (k := 1) rfl rfl) (E0.neb (k := 1) (k2 := 3) rfl rfl (by decide)) w' hw) (by exact cb (E0.cell (k := 1) rfl rfl) (E0.neb (k := 1) (k2 := 3) rfl rfl (by decide)) w' hw) (by exact cb (E0.cell (k := 1) rfl rfl) (E0.neb (k := 1) (k2 := 3) rfl rfl (by decide)) w' hw))) fun x hT => ?_
   refine M_one 2 (by kernel_rfl) ?_
   refine at_s hT rfl rfl rfl (e_st2k 3 E rfl rfl rfl rfl rfl rfl) ?_
   rintro _ w ⟨E, hk⟩
   have hS := hS.store hk
   refine ⟨fun _ _ => hS, ?_⟩
   refine M_one 3 (by kernel_rfl) ?_
   refine at_s hT rfl rfl rfl (e_stU 2 E rfl rfl rfl rfl rfl rfl rfl rfl) ?_
   rintro _ w E
   refine ⟨fun h => absurd h (by decide), ?_⟩
   refine M_end (by kernel_rfl) ?_
   show Code.wp _ _ _ _ _
   refine wp_ret ?_
   repeat refine then_ret ?_
   show bodyPost _ _ _ _ _ _
   refine ret_tu hT rfl rfl rfl (E.bx _ (nth_mem (k := 3) rfl)) (E.bx _ (nth_mem (k := 2) rfl)) ?_
   exact ⟨_, rfl, S1, (usp, ukey, unode, true), rfl, E.ts, E.fr, .inl rfl⟩
  | false =>
  have hR1 : PutR S lv rt j S1 usp unode := hR1.resolve_left (by simp)
  have hl1 : S1.length = S.length := by
   obtain ⟨lv1, w1, _⟩ := hR1
   rw [w1.len, hl]
  cases usp with
  | false =>
   refine wp_region_lit ?_
   refine lq hT (q_field rfl rfl fU rfl) fun x hT => ?_
   refine lq hT (q_load rfl rfl (l_bool (by exact E.cell (k := 1) rfl rfl))) fun x hT => ?_
   refine lq hT (q_move rfl rfl) fun x hT => ?_
   refine L_qg hT rfl rfl rfl rfl rfl rfl (q_field rfl rfl fU rfl) ?_
   intro x hT
   refine L_qg hT rfl rfl rfl rfl rfl rfl (q_load rfl rfl (l_bool (by exact E.cell (k := 1) rfl rfl))) ?_
   intro x hT
   refine L_qg hT rfl rfl rfl rfl rfl rfl (q_not rfl rfl) ?_
   intro x hT
   refine lq hT (q_pick_f rfl rfl rfl) fun x hT => ?_
   refine wpList_nil ?_
   show Code.wp _ _ _ _ _
   refine wp_cond_true (hT.ev rfl) ?_
   refine wp_seq ?_
   refine wp_region_M (n := 4) (But b8 w.drew) [0, 1, 2] [] (by kernel_rfl) rfl ?_
   have hS := But.refl b8 w.drew
   have E0 := E.below (below_drew w)
   have E := E0
   refine mq 0 [2, 3] hT hS rfl (fun w' hw => q_load rfl rfl (l_tree (by exact cb (E0.cell (k := 0) rfl rfl) (E0.neb (k := 0) (k2 := 3) rfl rfl (by decide)) w' hw) (by exact cb (E0.cell (k := 0) rfl rfl) (E0.neb (k := 0) (k2 := 3) rfl rfl (by decide)) w' hw))) fun x hT => ?_
   refine mq 1 [3] hT hS rfl (fun w' hw => q_load rfl rfl (l_up (by exact cb (E0.cell (k := 1) rfl rfl) (E0.neb (k := 1) (k2 := 3) rfl rfl (by decide)) w' hw) (by exact cb (E0.cell (k := 1) rfl rfl) (E0.neb (k := 1) (k2 := 3) rfl rfl (by decide)) w' hw) (by exact cb (E0.cell (k := 1) rfl rfl) (E0.neb (k := 1) (k2 := 3) rfl rfl (by decide)) w' hw) (by exact cb (E0.cell (k := 1) rfl rfl) (E0.neb (k := 1) (k2 := 3) rfl rfl (by decide)) w' hw))) fun x hT => ?_
   refine M_one 2 (by kernel_rfl) ?_
   refine at_s hT rfl rfl rfl (e_st2k 3 E rfl rfl rfl rfl rfl rfl) ?_
   rintro _ w ⟨E, hk⟩
   have hS := hS.store hk
   refine ⟨fun _ _ => hS, ?_⟩
   refine M_one 3 (by kernel_rfl) ?_
   refine at_s hT rfl rfl rfl (e_stU 2 E rfl rfl rfl rfl rfl rfl rfl rfl) ?_
   rintro _ w E
   refine ⟨fun h => absurd h (by decide), ?_⟩
   refine M_end (by kernel_rfl) ?_
   show Code.wp _ _ _ _ _
   refine wp_ret ?_
   repeat refine then_ret ?_
   show bodyPost _ _ _ _ _ _
   refine ret_tu hT rfl rfl rfl (E.bx _ (nth_mem (k := 3) rfl)) (E.bx _ (nth_mem (k := 2) rfl)) ?_
   exact ⟨_, rfl, S1, (false, ukey, unode, false), rfl, E.ts, E.fr, .inr (put_same hw ⟨_, hs, hz⟩ hlj hR1)⟩
  | true =>
  have hs1 := hR1.at hw hs hz hlj
  obtain ⟨f, rfl, hfr, hft, hfun⟩ : ∃ f : Nat, unode = (f : Int) ∧ f ≠ rt ∧ (∃ t, S1[f]? = some t ∧ t ≠ zS) ∧ (f : Int) ∉ kids := by
   obtain ⟨lv1, w1, _, _, _, h5⟩ := hR1
   obtain ⟨f, e1, e2, ⟨t, e3, e4, _⟩, _, e6⟩ := h5 rfl
   exact ⟨f, e1, e2, ⟨t, e3, e4⟩, e6 at' _ hs1⟩
  have hknd : kids.Nodup := hw.nodup hs
  refine wp_region_lit ?_
  refine lq hT (q_field rfl rfl fU rfl) fun x hT => ?_
  refine lq hT (q_load rfl rfl (l_bool (by exact E.cell (k := 1) rfl rfl))) fun x hT => ?_
  refine lq hT (q_move rfl rfl) fun x hT => ?_
  refine L_qg hT rfl rfl rfl rfl rfl rfl (q_field rfl rfl fU rfl) ?_
  intro x hT
  refine L_qg hT rfl rfl rfl rfl rfl rfl (q_load rfl rfl (l_bool (by exact E.cell (k := 1) rfl rfl))) ?_
  intro x hT
  refine L_qg hT rfl rfl rfl rfl rfl rfl (q_not rfl rfl) ?_
  intro x hT
  refine lq hT (q_pick_f rfl rfl rfl) fun x hT => ?_
  refine wpList_nil ?_
  show Code.wp _ _ _ _ _
  refine wp_cond_false (hT.ev rfl) ?_
  refine wp_skip ?_
  show Code.wp _ _ _ _ _
  refine wp_seq ?_
  have E := E.norows
  obtain ⟨tA, tc, tA2, tc2, tA3, tc3, q0, q1, q2, q3, E⟩ := E.readf hs1
  have q1 := ck q1 _ (below_drew w)
  have q3 := ck q3 _ (below_drew w)
  refine wp_region_M (n := 11) (Below w.drew.heap.size w.drew) [0, 1, 2, 3, 4, 5, 6, 7, 8, 9, 10] [] (by kernel_rfl) rfl ?_
  have hS := Below.refl w.drew.heap.size w.drew
  have E0 := E.below (below_drew w)
  have E := E0
  refine mq 0 [1, 3, 4, 5, 9, 10] hT hS rfl (fun w' hw => q_field rfl rfl fT rfl) fun x hT => ?_
  refine mq 1 [3, 4, 5, 9, 10] hT hS rfl (fun w' hw => q_load rfl rfl (l_sn (ck (by exact E0.cell (k := 0) rfl rfl) w' hw))) fun x hT => ?_
  refine mq 2 [3, 4, 5, 9, 10] hT hS rfl (fun w' hw => q_move rfl rfl) fun x hT => ?_
  refine mq 3 [4, 5, 9, 10] hT hS rfl (fun w' hw => q_index rfl rfl rfl (i_node (by omega))) fun x hT => ?_
  refine mq 4 [5, 9, 10] hT hS rfl (fun w' hw => q_field rfl rfl fN rfl) fun x hT => ?_
  refine mq 5 [9, 10] hT hS rfl (fun w' hw => q_load rfl rfl (l_ss (ck q1 w' hw))) fun x hT => ?_
  refine mq 6 [9, 10] hT hS rfl (fun w' hw => q_move rfl rfl) fun x hT => ?_
  refine mq 7 [8, 9, 10] hT hS rfl (fun w' hw => q_field rfl rfl fU rfl) fun x hT => ?_
  refine mq 8 [9, 10] hT hS rfl (fun w' hw => q_load rfl rfl (l_str (ck (by exact E0.cell (k := 1) rfl rfl) w' hw))) fun x hT => ?_
  refine M_one 9 (by kernel_rfl) ?_
  refine at_w hT rfl rfl rfl rfl (w_callN rfl rfl (by kernel_rfl) (args := [_, _, _]) rfl (c_in E.hBw (RD.ss (E.row (k := 0) rfl)) (by omega) hp)) ?_
  rintro _ w ⟨r1, m⟩ x hT
  have hS := hS.trans (m.mono hS.size)
  have E := E.below m
  have q3 := ck q3 _ m
  refine ⟨fun _ _ => hS, ?_⟩
  refine mq 10 [] hT hS rfl (fun w' hw => q_assign rfl rfl) fun x hT => ?_
  refine M_end (by kernel_rfl) ?_
  have E := E.add r1
  show Code.wp _ _ _ _ _
  refine wp_seq ?_
  have q3 := ck q3 _ (below_drew w)
  refine wp_region_M (n := 12) (Below w.drew.heap.size w.drew) [0, 1, 2, 3, 4, 5, 6, 7, 8, 9, 10, 11] [] (by kernel_rfl) rfl ?_
  have hS := Below.refl w.drew.heap.size w.drew
  have E0 := E.below (below_drew w)
  have E := E0
  refine mq 0 [1, 3, 4, 5, 10, 11] hT hS rfl (fun w' hw => q_field rfl rfl fT rfl) fun x hT => ?_
  refine mq 1 [3, 4, 5, 10, 11] hT hS rfl (fun w' hw => q_load rfl rfl (l_sn (ck (by exact E0.cell (k := 0) rfl rfl) w' hw))) fun x hT => ?_
  refine mq 2 [3, 4, 5, 10, 11] hT hS rfl (fun w' hw => q_move rfl rfl) fun x hT => ?_
  refine mq 3 [4, 5, 10, 11] hT hS rfl (fun w' hw => q_index rfl rfl rfl (i_node (by omega))) fun x hT => ?_
  refine mq 4 [5, 10, 11] hT hS rfl (fun w' hw => q_field rfl rfl fN rfl) fun x hT => ?_
  refine mq 5 [10, 11] hT hS rfl (fun w' hw => q_load rfl rfl (l_si (ck q3 w' hw))) fun x hT => ?_
  refine mq 6 [7, 10, 11] hT hS rfl (fun w' hw => q_move rfl rfl) fun x hT => ?_
  refine mq 7 [10, 11] hT hS rfl (fun w' hw => q_bin rfl rfl rfl (n_add (by omega))) fun x hT => ?_
  refine mq 8 [9, 10, 11] hT hS rfl (fun w' hw => q_field rfl rfl fU rfl) fun x hT => ?_
  refine mq 9 [10, 11] hT hS rfl (fun w' hw => q_load rfl rfl (l_int (ck (by exact E0.cell (k := 1) rfl rfl) w' hw))) fun x hT => ?_
  refine M_one 10 (by kernel_rfl) ?_
  refine at_w hT rfl rfl rfl rfl (w_callN rfl rfl (by kernel_rfl) (args := [_, _, _]) rfl (c_inNum E.hBw (RD.si (E.row (k := 3) rfl)) (by omega) (by omega))) ?_
  rintro _ w ⟨r2, m⟩ x hT
  have hS := hS.trans (m.mono hS.size)
  have E := E.below m
  refine ⟨fun _ _ => hS, ?_⟩
  refine mq 11 [] hT hS rfl (fun w' hw => q_assign rfl rfl) fun x hT => ?_
  refine M_end (by kernel_rfl) ?_
  have E := E.add r2
  obtain ⟨kids', hkids'⟩ : ∃ l, l = kids.take (p + 1) ++ [(f : Int)] ++ kids.drop (p + 1) := ⟨_, rfl⟩
  have hklen : kids'.length = K + 1 + 1 := by rw [hkids', ins_len (by omega), hkl]
  have hknd' : kids'.Nodup := by rw [hkids']; exact ins_nodup hknd hfun _
  have hkmem : ∀ k ∈ kids', k ∈ kids ∨ k = (f : Int) := by rw [hkids']; exact ins_mem
  rw [← hkids'] at E
  clear r1 r2 q0 q1 q2 q3
  obtain ⟨A13, c13, rfl⟩ := RD.sform (E.row (k := 1) rfl)
  obtain ⟨A14, c14, rfl⟩ := RD.iform (E.row (k := 0) rfl)
  show Code.wp _ _ _ _ _
  refine wp_seq ?_
  refine wp_seq ?_
  refine wp_region_lit ?_
  refine lq hT (q_move rfl rfl) fun x hT => ?_
  refine lq hT (q_len rfl Try.underlying62 rfl) fun x hT => ?_
  refine lq hT (q_bin rfl rfl rfl n_le) fun x hT => ?_
  refine wpList_nil ?_
  show Code.wp _ _ _ _ _
  refine wp_cond_split (hT.ev rfl) (fun h5 => ?_) (fun h5 => ?_)
  ·have h5 := of_decide_eq_true h5
   refine wp_seq ?_
   refine wp_region_M (n := 8) (Below w.drew.heap.size w.drew) [0, 1, 2, 3, 4, 5, 6] [] (by kernel_rfl) rfl ?_
   have hS := Below.refl w.drew.heap.size w.drew
   have E0 := E.below (below_drew w)
   have E := E0
   refine mq 0 [1, 6, 7] hT hS rfl (fun w' hw => q_field rfl rfl fT rfl) fun x hT => ?_
   refine mq 1 [6, 7] hT hS rfl (fun w' hw => q_load rfl rfl (l_sn (ck (by exact E0.cell (k := 0) rfl rfl) w' hw))) fun x hT => ?_
   refine mq 2 [6, 7] hT hS rfl (fun w' hw => q_move rfl rfl) fun x hT => ?_
   refine mq 3 [5, 6, 7] hT hS rfl (fun w' hw => q_move rfl rfl) fun x hT => ?_
   refine mq 4 [5, 6, 7] hT hS rfl (fun w' hw => q_move rfl rfl) fun x hT => ?_
   refine M_one 5 (by kernel_rfl) ?_
   refine at_w hT rfl rfl rfl rfl (w_callN rfl rfl (by kernel_rfl) (args := [_, _]) rfl (c_innerOf E.hBw (RD.ss (E.row (k := 1) rfl)) (RD.si (E.row (k := 0) rfl)) (by omega) (by omega))) ?_
   rintro _ w ⟨r3, m⟩ x hT
   have hS := hS.trans (m.mono hS.size)
   have E := E.below m
   refine ⟨fun _ _ => hS, ?_⟩
   refine mq 6 [7] hT hS rfl (fun w' hw => q_index rfl rfl rfl (i_node (by omega))) fun x hT => ?_
   refine M_one 7 (by kernel_rfl) ?_
   refine at_s hT rfl rfl rfl (e_stN E rfl rfl rfl r3 (by rw [hl1]; exact hlt)) ?_
   rintro _ w E
   refine ⟨fun h => absurd h (by decide), ?_⟩
   refine M_end (by kernel_rfl) ?_
   show Code.wp _ _ _ _ _
   refine wp_seq ?_
   refine wp_region_lit ?_
   refine lq hT (q_load rfl rfl (l_tree (by exact E.cell (k := 0) rfl rfl) (by exact E.cell (k := 0) rfl rfl))) fun x hT => ?_
   refine lq hT (q_build0 rfl (b_up0 _)) fun x hT => ?_
   refine L_s hT rfl rfl (e_st2 3 E rfl rfl rfl rfl rfl rfl) ?_
   rintro _ w E
   refine L_s hT rfl rfl (e_stU 2 E rfl rfl rfl rfl rfl rfl rfl rfl) ?_
   rintro _ w E
   refine wpList_nil ?_
   show Code.wp _ _ _ _ _
   refine wp_ret ?_
   repeat refine then_ret ?_
   show bodyPost _ _ _ _ _ _
   refine ret_tu hT rfl rfl rfl (E.bx _ (nth_mem (k := 3) rfl)) (E.bx _ (nth_mem (k := 2) rfl)) ?_
   exact ⟨_, rfl, _, (false, ⟨#[]⟩, 0, false), rfl, E.ts, E.fr, .inr (put_inner_in hw hs (by omega) hlj hR1 hklen hknd' hkmem (by omega) 0)⟩
  have h5 := of_decide_eq_false h5
  obtain rfl : K = 4 := by omega
  refine wp_skip ?_
  show Code.wp _ _ _ _ _
  refine wp_seq ?_
  refine wp_region_lit ?_
  refine lq hT (q_load rfl rfl (l_tree (by exact E.cell (k := 0) rfl rfl) (by exact E.cell (k := 0) rfl rfl))) fun x hT => ?_
  refine L_w hT rfl rfl rfl (w_callN rfl rfl (by kernel_rfl) (args := [_]) rfl (by have := c_free (root := root) (c := c) E.ts (by rw [hl1, hl]; omega) (by rw [hl1]; exact hc); rw [hl1] at this; exact this)) ?_
  rintro _ w ⟨r, rfl, hr, m⟩ x hT
  have E := E.below m
  refine lq hT (q_assign rfl rfl) fun x hT => ?_
  refine wpList_nil ?_
  show Code.wp _ _ _ _ _
  refine wp_seq ?_
  refine wp_seq ?_
  refine wp_region_lit ?_
  refine lq hT (q_move rfl rfl) fun x hT => ?_
  refine lq hT (q_bin rfl rfl rfl n_lt) fun x hT => ?_
  refine wpList_nil ?_
  show Code.wp _ _ _ _ _
  rcases hr with rfl | ⟨f2, rfl, hf2⟩
  ·refine wp_cond_true (hT.ev rfl) ?_
   refine wp_seq ?_
   refine wp_region_lit ?_
   refine lq hT (q_load rfl rfl (l_tree (by exact E.cell (k := 0) rfl rfl) (by exact E.cell (k := 0) rfl rfl))) fun x hT => ?_
   refine lq hT (q_build1 rfl rfl (b_upF _)) fun x hT => ?_
   refine L_s hT rfl rfl (e_st2 3 E rfl rfl rfl rfl rfl rfl) ?_
   rintro _ w E
   refine L_s hT rfl rfl (e_stU 2 E rfl rfl rfl rfl rfl rfl rfl rfl) ?_
   rintro _ w E
   refine wpList_nil ?_
   show Code.wp _ _ _ _ _
   refine wp_ret ?_
   repeat refine then_ret ?_
   show bodyPost _ _ _ _ _ _
   refine ret_tu hT rfl rfl rfl (E.bx _ (nth_mem (k := 3) rfl)) (E.bx _ (nth_mem (k := 2) rfl)) ?_
   exact ⟨_, rfl, _, (false, ⟨#[]⟩, 0, true), rfl, E.ts, E.fr, .inl rfl⟩
  have hf0 : decide ((f2 : Int) < 0) = false := decide_eq_false (by omega)
  have hf2l := (List.getElem?_eq_some_iff.1 hf2).1
  refine wp_cond_false ((hT.ev rfl).trans (congrArg Value.bool hf0)) ?_
  refine wp_skip ?_
  show Code.wp _ _ _ _ _
  refine wp_seq ?_
  refine wp_region_lit ?_
  refine lq hT (q_assign rfl rfl) fun x hT => ?_
  refine wpList_nil ?_
  show Code.wp _ _ _ _ _
  refine wp_seq ?_
  obtain ⟨kb1, rfl, hkc1⟩ := RD.sblk (E.row (k := 1) rfl) (by omega)
  obtain ⟨kb2, rfl, hkc2⟩ := RD.iblk (E.row (k := 0) rfl) (by omega)
  refine wp_region_M (n := 13) (Below w.drew.heap.size w.drew) [0, 1, 2, 3, 4, 5, 6, 7, 8, 9, 10, 11] [] (by kernel_rfl) rfl ?_
  have hS := Below.refl w.drew.heap.size w.drew
  have E0 := E.below (below_drew w)
  have E := E0
  refine mq 0 [1, 11, 12] hT hS rfl (fun w' hw => q_field rfl rfl fT rfl) fun x hT => ?_
  refine mq 1 [11, 12] hT hS rfl (fun w' hw => q_load rfl rfl (l_sn (ck (by exact E0.cell (k := 0) rfl rfl) w' hw))) fun x hT => ?_
  refine mq 2 [11, 12] hT hS rfl (fun w' hw => q_move rfl rfl) fun x hT => ?_
  refine mq 3 [5, 10, 11, 12] hT hS rfl (fun w' hw => q_move rfl rfl) fun x hT => ?_
  refine mq 4 [5, 10, 11, 12] hT hS rfl (fun w' hw => q_move rfl rfl) fun x hT => ?_
  refine mq 5 [10, 11, 12] hT hS rfl (fun w' hw => q_slice rfl rfl (LO := none) (HI := some _) rfl rfl (sl_s_hi (m := 2) (by omega))) fun x hT => ?_
  refine mq 6 [9, 10, 11, 12] hT hS rfl (fun w' hw => q_move rfl rfl) fun x hT => ?_
  refine mq 7 [8, 9, 10, 11, 12] hT hS rfl (fun w' hw => q_move rfl rfl) fun x hT => ?_
  refine mq 8 [9, 10, 11, 12] hT hS rfl (fun w' hw => q_bin rfl rfl rfl (n_add (n := 2) (by omega))) fun x hT => ?_
  refine mq 9 [10, 11, 12] hT hS rfl (fun w' hw => q_slice rfl rfl (LO := none) (HI := some _) rfl rfl (sl_i_hi (m := 3) (by omega))) fun x hT => ?_
  refine M_one 10 (by kernel_rfl) ?_
  refine at_w hT rfl rfl rfl rfl (w_callN rfl rfl (by kernel_rfl) (args := [_, _]) rfl (c_innerOf E.hBw ((RD.ss (E.row (k := 1) rfl)).take (m := 2) (by omega)) ((RD.si (E.row (k := 0) rfl)).take (m := 3) (by omega)) (by omega) (by rw [List.length_take]; omega))) ?_
  rintro _ w ⟨r3, m⟩ x hT
  have hS := hS.trans (m.mono hS.size)
  have E := E.below m
  refine ⟨fun _ _ => hS, ?_⟩
  refine mq 11 [12] hT hS rfl (fun w' hw => q_index rfl rfl rfl (i_node (by omega))) fun x hT => ?_
  refine M_one 12 (by kernel_rfl) ?_
  refine at_s hT rfl rfl rfl (e_stN E rfl rfl rfl r3 (by rw [hl1]; exact hlt)) ?_
  rintro _ w E
  refine ⟨fun h => absurd h (by decide), ?_⟩
  refine M_end (by kernel_rfl) ?_
  show Code.wp _ _ _ _ _
  refine wp_seq ?_
  refine wp_region_M (n := 14) (Below w.drew.heap.size w.drew) [0, 1, 2, 3, 4, 5, 6, 7, 8, 9, 10, 11, 12] [] (by kernel_rfl) rfl ?_
  have hS := Below.refl w.drew.heap.size w.drew
  have E0 := E.below (below_drew w)
  have E := E0
  refine mq 0 [1, 12, 13] hT hS rfl (fun w' hw => q_field rfl rfl fT rfl) fun x hT => ?_
  refine mq 1 [12, 13] hT hS rfl (fun w' hw => q_load rfl rfl (l_sn (ck (by exact E0.cell (k := 0) rfl rfl) w' hw))) fun x hT => ?_
  refine mq 2 [12, 13] hT hS rfl (fun w' hw => q_move rfl rfl) fun x hT => ?_
  refine mq 3 [6, 11, 12, 13] hT hS rfl (fun w' hw => q_move rfl rfl) fun x hT => ?_
  refine mq 4 [5, 6, 11, 12, 13] hT hS rfl (fun w' hw => q_move rfl rfl) fun x hT => ?_
  refine mq 5 [6, 11, 12, 13] hT hS rfl (fun w' hw => q_bin rfl rfl rfl (n_add (n := 2) (by omega))) fun x hT => ?_
  refine mq 6 [11, 12, 13] hT hS rfl (fun w' hw => q_slice rfl rfl (LO := some _) (HI := none) rfl rfl (sl_s_lo (m := 3) (by omega) (by omega))) fun x hT => ?_
  refine mq 7 [10, 11, 12, 13] hT hS rfl (fun w' hw => q_move rfl rfl) fun x hT => ?_
  refine mq 8 [9, 10, 11, 12, 13] hT hS rfl (fun w' hw => q_move rfl rfl) fun x hT => ?_
  refine mq 9 [10, 11, 12, 13] hT hS rfl (fun w' hw => q_bin rfl rfl rfl (n_add (n := 2) (by omega))) fun x hT => ?_
  refine mq 10 [11, 12, 13] hT hS rfl (fun w' hw => q_slice rfl rfl (LO := some _) (HI := none) rfl rfl (sl_i_lo (m := 3) (by omega) (by omega))) fun x hT => ?_
  refine M_one 11 (by kernel_rfl) ?_
  refine at_w hT rfl rfl rfl rfl (w_callN rfl rfl (by kernel_rfl) (args := [_, _]) rfl (c_innerOf E.hBw ((RD.ss (E.row (k := 1) rfl)).drop (m := 3) (by omega)) ((RD.si (E.row (k := 0) rfl)).drop (m := 3) (by omega)) (by omega) (by rw [List.length_drop]; omega))) ?_
  rintro _ w ⟨r3, m⟩ x hT
  have hS := hS.trans (m.mono hS.size)
  have E := E.below m
  refine ⟨fun _ _ => hS, ?_⟩
  refine mq 12 [13] hT hS rfl (fun w' hw => q_index rfl rfl rfl (i_node (by omega))) fun x hT => ?_
  refine M_one 13 (by kernel_rfl) ?_
  refine at_s hT rfl rfl rfl (e_stN E rfl rfl rfl r3 (by rw [List.length_set]; exact hf2l)) ?_
  rintro _ w E
  refine ⟨fun h => absurd h (by decide), ?_⟩
  refine M_end (by kernel_rfl) ?_
  show Code.wp _ _ _ _ _
  refine wp_seq ?_
  obtain ⟨s3, hs3⟩ := RD.sat ((E.below (below_drew w)).row (k := 1) rfl) (j := 2) (by omega)
  have hne3 := E.ner (k := 3) rfl (E.row (k := 1) rfl)
  refine wp_region_M (n := 9) (But b8 w.drew) [0, 1, 2, 3, 4, 5, 6, 7] [] (by kernel_rfl) rfl ?_
  have hS := But.refl b8 w.drew
  have E0 := E.below (below_drew w)
  have E := E0
  refine mq 0 [7, 8] hT hS rfl (fun w' hw => q_load rfl rfl (l_tree (by exact cb (E0.cell (k := 0) rfl rfl) (E0.neb (k := 0) (k2 := 3) rfl rfl (by decide)) w' hw) (by exact cb (E0.cell (k := 0) rfl rfl) (E0.neb (k := 0) (k2 := 3) rfl rfl (by decide)) w' hw))) fun x hT => ?_
  refine mq 1 [3, 4, 6, 8] hT hS rfl (fun w' hw => q_move rfl rfl) fun x hT => ?_
  refine mq 2 [3, 4, 6, 8] hT hS rfl (fun w' hw => q_move rfl rfl) fun x hT => ?_
  refine mq 3 [4, 6, 8] hT hS rfl (fun w' hw => q_index rfl rfl rfl (i_str (k := 2) (by omega))) fun x hT => ?_
  refine mq 4 [6, 8] hT hS rfl (fun w' hw => q_load rfl rfl (l_str (cb hs3 hne3 w' hw))) fun x hT => ?_
  refine mq 5 [6, 8] hT hS rfl (fun w' hw => q_move rfl rfl) fun x hT => ?_
  refine mq 6 [8] hT hS rfl (fun w' hw => q_build3 rfl rfl rfl rfl (b_upS _ _ _)) fun x hT => ?_
  refine M_one 7 (by kernel_rfl) ?_
  refine at_s hT rfl rfl rfl (e_st2k 3 E rfl rfl rfl rfl rfl rfl) ?_
  rintro _ w ⟨E, hk⟩
  have hS := hS.store hk
  refine ⟨fun _ _ => hS, ?_⟩
  refine M_one 8 (by kernel_rfl) ?_
  refine at_s hT rfl rfl rfl (e_stU 2 E rfl rfl rfl rfl rfl rfl rfl rfl) ?_
  rintro _ w E
  refine ⟨fun h => absurd h (by decide), ?_⟩
  refine M_end (by kernel_rfl) ?_
  show Code.wp _ _ _ _ _
  refine wp_ret ?_
  repeat refine then_ret ?_
  show bodyPost _ _ _ _ _ _
  refine ret_tu hT rfl rfl rfl (E.bx _ (nth_mem (k := 3) rfl)) (E.bx _ (nth_mem (k := 2) rfl)) ?_
  exact ⟨_, rfl, _, (true, s3, (f2 : Int), false), rfl, E.ts, E.fr, .inr (put_inner_split hw hs hlj hR1 hklen hknd' hkmem hf2)⟩
end Go.Proofs.Ytcolgghllacloaa.Tm
end

section
namespace Go.Proofs.Ytcolgghllacloaa.Tm
open Go.Rf (RowIn strs ints rep nodeT ownL blk Src IsLow IsUp)
open Go.Proofs.Ytcolgghllacloaa.R (okLen okNode)
open Go.RowKit Go.Proofs.Ytcolgghllacloaa.Q Go.Proofs.YtcolgghllacloaaW.PrintWords Go.Proofs.YtcolgghllacloaaW.PrintLast Go.Proofs.YtcolgghllacloaaW.PrintMore
def TreeV (w : World) (B : Nat) (v : Value) : Prop := ∃ (rt g c : Nat) (S : List Sk) (lv : Nat → Nat), v = tv (rt : Int) g S.length c ∧ S.length ≤ c ∧ TS w B g S ∧ WF S lv rt x0
def TreeRes (wz : World) : Value → World → Prop := fun r w' => ∃ v k, r = .tuple #[v, .int .i64 k] ∧ TreeV w' wz.heap.size v ∧ Below wz.heap.size wz w'
theorem TI.weaken {w : World} {B B' g : Nat} {N : List Nd} (h : TI w B g N) (hB : B' ≤ B) : TI w B' g N := by
 obtain ⟨cur, h1, h2, h3, h4⟩ := h
 refine ⟨cur, h1, h2, Nat.le_trans hB h3, fun i n hn => ?_⟩
 obtain ⟨uK, uV, uI, e0, e1, e2, e3, r1, r2, r3⟩ := h4 i n hn
 exact ⟨uK, uV, uI, e0, e1, e2, e3, r1.weaken hB, r2.weaken hB, r3.weaken hB⟩
theorem TreeV.weaken {w : World} {B B' : Nat} {v : Value} (h : TreeV w B v) (hB : B' ≤ B) : TreeV w B' v := by
 obtain ⟨rt, g, c, S, lv, e, hc, ⟨N, h1, h2⟩, hw⟩ := h
 exact ⟨rt, g, c, S, lv, e, hc, ⟨N, h1.weaken hB, h2⟩, hw⟩
theorem TreeV.below {w w' : World} {B : Nat} {v : Value} (h : TreeV w B v) (m : Below w.heap.size w w') : TreeV w' B v := by
 obtain ⟨rt, g, c, S, lv, e, hc, h1, hw⟩ := h
 exact ⟨rt, g, c, S, lv, e, hc, h1.below m, hw⟩
section
variable {wz w w' : World} {B g c : Nat} {Lb : List BD} {Rs : List RD} {S : List Sk} {N : List Nd} {o : Oper} {L : List (Nat × Value)}
theorem Env.change (E : Env wz B g Lb Rs S w) {B1 g' : Nat} (m : Below w.heap.size w w') (hZ : Below wz.heap.size wz w') (hT : TI w' B1 g' N) (hB1 : wz.heap.size ≤ B1) (hg : w.heap.size ≤ g') : Env wz wz.heap.size g' Lb [] (N.map sk) w' :=
 ⟨Nat.le_refl _, Fr.of_below hZ (Nat.le_refl _) (.inr (Nat.le_trans E.size hg)), fun x hx => (E.bx x hx).below m (E.bx x hx).lt, fun x hx => ⟨by have := (E.bx x hx).lt; omega, (E.ne x hx).2⟩, E.nd, fun _ h => (by cases h), ⟨N, hT.weaken hB1, rfl⟩⟩
def Env.atG (_ : Env wz B g Lb Rs S w) (g' : Nat) (pre : List BD) (S' : List Sk) (W : World) : Prop := Env wz wz.heap.size g' (pre ++ Lb) [] S' W
theorem c_copy {root : Int} (hB : B ≤ w.heap.size) (h : TI w B g N) (h4 : ∀ n ∈ N, n.2.1.length ≤ 1000 ∧ n.2.2.1.length ≤ 1000 ∧ n.2.2.2.1.length ≤ 1000) (h0 : 0 < (N.map sk).length) (hl : (N.map sk).length ≤ 1000) (hc : (N.map sk).length ≤ c) : Calls Try.prog 74 #[tv root g (N.map sk).length c] w (Ans fun v w' => ∃ g' c', v = tv root g' (N.map sk).length c' ∧ (N.map sk).length ≤ c' ∧ w.heap.size ≤ g' ∧ TI w' w.heap.size g' N ∧ Below w.heap.size w w') := by
 rw [List.length_map] at h0 hl hc ⊢
 refine (copy_any w B hB root g c N h h0 hl hc (fun n hn => ?_)).mono ?_
 ·obtain ⟨a, b, d⟩ := h4 n hn
  refine ⟨?_, ?_, ?_⟩ <;> (unfold okLen; omega)
 ·rintro e w' ⟨g', c', rfl, h1, h2, h3, h4⟩
  exact ⟨_, rfl, g', c', rfl, h1, h2, h3, h4⟩
theorem WF.small {lv : Nat → Nat} {rt : Nat} {x : Nat → Nat} (h : WF (N.map sk) lv rt x) : ∀ n ∈ N, n.2.1.length ≤ 1000 ∧ n.2.2.1.length ≤ 1000 ∧ n.2.2.2.1.length ≤ 1000 := fun n hn => by
 obtain ⟨i, hi⟩ := List.getElem?_of_mem hn
 have hs : (N.map sk)[i]? = some (sk n) := by rw [List.getElem?_map, hi]; rfl
 have h4 : n.2.1.length ≤ 4 := h.four i _ hs
 by_cases hz : sk n = zS
 ·have e1 : n.2.2.1.length = 0 := congrArg (fun s : Sk => s.2.2.1) hz
  have e2 : n.2.2.2.1 = [] := congrArg (fun s : Sk => s.2.2.2) hz
  rw [e2]
  exact ⟨by omega, by omega, by simp⟩
 ·obtain ⟨lf, aK, aV, aI, e, h1, h2⟩ := h.shape hs hz
  have e1 : n.2.1.length = aK := congrArg (fun s : Sk => s.2.1) e
  have e2 : n.2.2.1.length = aV := congrArg (fun s : Sk => s.2.2.1) e
  have e3 : n.2.2.2.1 = aI := congrArg (fun s : Sk => s.2.2.2) e
  rw [e3]
  cases lf with
  | true => obtain ⟨a, b, _⟩ := h1 rfl; rw [b]; exact ⟨by omega, by omega, by simp⟩
  | false => obtain ⟨a, b, _⟩ := h2 rfl; exact ⟨by omega, by omega, by omega⟩
theorem lit_s {x : Operand} {s : ByteArray} {M : Nat} (ho : o.op = .buildSlice 62 1 #[(0, x)]) (hx : ev L x = some (.string s)) (hM : M ≤ w.heap.size) : WY Try.prog o L w fun v w' => (RD.s v 1).ok w' M ∧ Below w.heap.size w w' := wy_value fun a n hT => by
 refine ⟨.slice (some ⟨w.heap.size, 0, none⟩) 1 1, w.alloc (.cells #[.string s] 9), ?_, ⟨[s], rfl, .inr ⟨w.heap.size, 1, #[.string s], rfl, hM, CellsAt.new w _ _, Nat.le_refl _, by simp [maxLen], by simp, rfl⟩⟩, (Below.refl _ w).alloc (Nat.le_refl _) _⟩
 simp only [execOp, ho, List.map_toArray, List.map_cons, List.map_nil, hT.ev hx]
 simp [go_sem, Instr.buildSlice, Instr.fill]
theorem lit_i1 {x : Operand} {i : Int} {M : Nat} (ho : o.op = .buildSlice 65 1 #[(0, x)]) (hx : ev L x = some (.int .i64 i)) (hM : M ≤ w.heap.size) : WY Try.prog o L w fun v w' => (RD.i v [i]).ok w' M ∧ Below w.heap.size w w' := wy_value fun a n hT => by
 refine ⟨.slice (some ⟨w.heap.size, 0, none⟩) 1 1, w.alloc (.cells #[.int .i64 i] 3), ?_, .inr ⟨w.heap.size, 1, #[.int .i64 i], rfl, hM, CellsAt.new w _ _, Nat.le_refl _, by simp [maxLen], by simp, rfl⟩, (Below.refl _ w).alloc (Nat.le_refl _) _⟩
 simp only [execOp, ho, List.map_toArray, List.map_cons, List.map_nil, hT.ev hx]
 simp [go_sem, Instr.buildSlice, Instr.fill]
theorem lit_i2 {x y : Operand} {i j : Int} {M : Nat} (ho : o.op = .buildSlice 65 2 #[(0, x), (1, y)]) (hx : ev L x = some (.int .i64 i)) (hy : ev L y = some (.int .i64 j)) (hM : M ≤ w.heap.size) : WY Try.prog o L w fun v w' => (RD.i v [i, j]).ok w' M ∧ Below w.heap.size w w' := wy_value fun a n hT => by
 refine ⟨.slice (some ⟨w.heap.size, 0, none⟩) 2 2, w.alloc (.cells #[.int .i64 i, .int .i64 j] 3), ?_, .inr ⟨w.heap.size, 2, #[.int .i64 i, .int .i64 j], rfl, hM, CellsAt.new w _ _, Nat.le_refl _, by simp [maxLen], by simp, rfl⟩, (Below.refl _ w).alloc (Nat.le_refl _) _⟩
 simp only [execOp, ho, List.map_toArray, List.map_cons, List.map_nil, hT.ev hx, hT.ev hy]
 simp [go_sem, Instr.buildSlice, Instr.fill]
end
end Go.Proofs.Ytcolgghllacloaa.Tm
end

section
namespace Go.Proofs.Ytcolgghllacloaa.Tm
open Go.Rf (RowIn strs ints rep nodeT ownL blk Src IsLow IsUp)
open Go.Proofs.Ytcolgghllacloaa.R (okLen okNode)
open Go.RowKit Go.Proofs.Ytcolgghllacloaa.Q Go.Proofs.YtcolgghllacloaaW.PrintWords Go.Proofs.YtcolgghllacloaaW.PrintLast Go.Proofs.YtcolgghllacloaaW.PrintMore
set_option maxRecDepth 100000 in
set_option maxHeartbeats 4000000 in
theorem treePut_any (wz : World) (B : Nat) (v : Value) (key val : ByteArray) (hB : B ≤ wz.heap.size) (hv : TreeV wz B v) : Calls Try.prog 66 #[v, .string key, .string val] wz (Ans (TreeRes wz)) := by
 obtain ⟨rt, g, c, S, lv, rfl, hc, ⟨N, hN, hNS⟩, hw⟩ := hv
 subst hNS
 have hl := hw.len
 have E := Env.start hB hN.ts
 have hZ := Below.refl wz.heap.size wz
 refine enter (args := [tv (rt : Int) g (N.map sk).length c, .string key, .string val]) Try.func66 rfl Try.ntmps66 rfl ?_
 intro x hT
 refine wp_seq ?_
 refine wp_region_lit ?_
 refine L_w hT rfl rfl rfl (e_box E rfl rfl) ?_
 rintro _ w ⟨b3, rfl, E, m⟩ x hT
 have hZ := hZ.trans (m.mono hZ.size)
 refine L_w hT rfl rfl rfl (e_tree E rfl) ?_
 rintro _ w ⟨b6, rfl, E, m⟩ x hT
 have hZ := hZ.trans (m.mono hZ.size)
 refine lq hT (q_assign rfl rfl) fun x hT => ?_
 refine wpList_nil ?_
 show Code.wp _ _ _ _ _
 refine wp_seq ?_
 have hZ := hZ.trans ((below_drew w).mono hZ.size)
 refine wp_cut (fun x w => ∃ (b8 b9 g1 c1 : Nat) (S1 : List Sk) (u : UpT), hT.keepP [(8, .pointer (some ⟨b8, 0, none⟩)), (9, .pointer (some ⟨b9, 0, none⟩))] [1, 2, 3, 6] x ∧ E.atG g1 [(b8, 30, [.int .i64 (rt : Int), .slice (some ⟨g1, 0, none⟩) (N.map sk).length c1]), (b9, 109, [.bool u.1, .string u.2.1, .int .i64 u.2.2.1, .bool u.2.2.2])] S1 w ∧ (N.map sk).length ≤ c1 ∧ wz.heap.size ≤ g1 ∧ (u.2.2.2 = true ∨ PutR (N.map sk) lv rt rt S1 u.1 u.2.2.1)) ?_ ?_
 ·refine wp_region_M (n := 14) (Below w.drew.heap.size w.drew) [0, 1, 2, 3, 4, 5, 10, 11] [6] (by kernel_rfl) rfl ?_
  have hS := Below.refl w.drew.heap.size w.drew
  have E0 := E.below (below_drew w)
  have E := E0
  refine mQ 0 [1, 6, 7, 8, 9, 12, 13] hT hS rfl (fun w' hw => q_load rfl rfl (l_tree (ck (by exact E0.cell (k := 1) rfl rfl) w' hw) (ck (by exact E0.cell (k := 1) rfl rfl) w' hw))) fun x hT => ?_
  refine mQ 2 [3, 6, 7, 8, 9, 12, 13] hT hS rfl (fun w' hw => q_field rfl rfl fT rfl) fun x hT => ?_
  refine mQ 3 [6, 7, 8, 9, 12, 13] hT hS rfl (fun w' hw => q_load rfl rfl (l_int (ck (by exact E0.cell (k := 1) rfl rfl) w' hw))) fun x hT => ?_
  refine mQ 4 [6, 7, 8, 9, 12, 13] hT hS rfl (fun w' hw => q_move rfl rfl) fun x hT => ?_
  refine mQ 5 [6, 7, 8, 9, 12, 13] hT hS rfl (fun w' hw => q_move rfl rfl) fun x hT => ?_
  refine M_three 1 10 11 (by kernel_rfl) ?_ ?_ ?_
  ·refine at_w hT rfl rfl rfl rfl (w_callN rfl rfl (by kernel_rfl) (args := [_]) rfl (c_copy E.hBw (hN.below (hZ.trans (hS.mono hZ.size))) hw.small (by omega) (by omega) hc)) ?_
   rintro _ w ⟨g1, c1, rfl, hc1, hg1, hT1, m⟩ x hT
   have hS := hS.trans (m.mono hS.size)
   have hgz := Nat.le_trans E.size hg1
   have E := E.change m (hZ.trans (hS.mono hZ.size)) hT1 E.size hg1
   refine ⟨fun _ _ => hS, ?_⟩
   refine M_three 6 10 11 (by kernel_rfl) ?_ ?_ ?_
   ·refine at_w hT rfl rfl rfl rfl (w_callN rfl rfl (by kernel_rfl) (args := [_, _, _, _]) rfl (put_any wz.heap.size g1 c1 (rt : Int) key val (N.map sk) lv rt hc1 hw (lv rt + 1) rt (by omega) _ E.hBw E.ts hw.rt)) ?_
    rintro _ w ⟨S1, u, rfl, hT2, hF2, hR2⟩ x hT
    have E := E.step hF2 hT2
    refine ⟨fun h => absurd h (by decide), ?_⟩
    refine M_q0 7 hT rfl (by kernel_rfl) rfl rfl rfl (fun _ _ _ h => nomatch h.1) (fun w' => q_move rfl rfl) ?_
    intro x hT
    refine M_q0 8 hT rfl (by kernel_rfl) rfl rfl rfl (fun _ _ _ h => nomatch h.1) (fun w' => q_extract rfl rfl rfl) ?_
    intro x hT
    refine M_q0 9 hT rfl (by kernel_rfl) rfl rfl rfl (fun _ _ _ h => nomatch h.1) (fun w' => q_extract rfl rfl rfl) ?_
    intro x hT
    refine M_two 10 11 (by kernel_rfl) ?_ ?_
    ·refine at_w hT rfl rfl rfl rfl (e_tree E rfl) ?_
     rintro _ w ⟨b8, rfl, E, m⟩ x hT
     refine ⟨fun _ hc => (late 6 hc (by decide) (by kernel_rfl)).elim, ?_⟩
     refine M_one 11 (by kernel_rfl) ?_
     refine at_w hT rfl rfl rfl rfl (e_up E rfl) ?_
     rintro _ w ⟨b9, rfl, E, m⟩ x hT
     refine ⟨fun _ hc => (late 6 hc (by decide) (by kernel_rfl)).elim, ?_⟩
     refine M_one 12 (by kernel_rfl) ?_
     refine at_s hT rfl rfl rfl (e_st2 1 E rfl rfl rfl rfl rfl rfl) ?_
     rintro _ w E
     refine ⟨fun h => absurd h (by decide), ?_⟩
     refine M_one 13 (by kernel_rfl) ?_
     refine at_s hT rfl rfl rfl (e_stU 0 E rfl rfl rfl rfl rfl rfl rfl rfl) ?_
     rintro _ w E
     refine ⟨fun h => absurd h (by decide), ?_⟩
     refine M_end (by kernel_rfl) ?_
     exact ⟨rfl, _, _, g1, c1, S1, u, hT.sel [8, 9, 1, 2, 3, 6], E.swap, hc1, hgz, hR2⟩
    ·refine at_w hT rfl rfl rfl rfl (e_up E rfl) ?_
     rintro _ w ⟨b9, rfl, E, m⟩ x hT
     refine ⟨fun _ hc => (late 6 hc (by decide) (by kernel_rfl)).elim, ?_⟩
     refine M_one 10 (by kernel_rfl) ?_
     refine at_w hT rfl rfl rfl rfl (e_tree E rfl) ?_
     rintro _ w ⟨b8, rfl, E, m⟩ x hT
     refine ⟨fun _ hc => (late 6 hc (by decide) (by kernel_rfl)).elim, ?_⟩
     refine M_one 12 (by kernel_rfl) ?_
     refine at_s hT rfl rfl rfl (e_st2 0 E rfl rfl rfl rfl rfl rfl) ?_
     rintro _ w E
     refine ⟨fun h => absurd h (by decide), ?_⟩
     refine M_one 13 (by kernel_rfl) ?_
     refine at_s hT rfl rfl rfl (e_stU 1 E rfl rfl rfl rfl rfl rfl rfl rfl) ?_
     rintro _ w E
     refine ⟨fun h => absurd h (by decide), ?_⟩
     refine M_end (by kernel_rfl) ?_
     exact ⟨rfl, _, _, g1, c1, S1, u, hT.sel [8, 9, 1, 2, 3, 6], E, hc1, hgz, hR2⟩
   ·refine at_w hT rfl rfl rfl rfl (e_tree E rfl) ?_
    rintro _ w ⟨b8, rfl, E, m⟩ x hT
    have hS := hS.trans (m.mono hS.size)
    refine ⟨fun _ _ => hS, ?_⟩
    refine M_two 6 11 (by kernel_rfl) ?_ ?_
    ·refine at_w hT rfl rfl rfl rfl (w_callN rfl rfl (by kernel_rfl) (args := [_, _, _, _]) rfl (put_any wz.heap.size g1 c1 (rt : Int) key val (N.map sk) lv rt hc1 hw (lv rt + 1) rt (by omega) _ E.hBw E.ts hw.rt)) ?_
     rintro _ w ⟨S1, u, rfl, hT2, hF2, hR2⟩ x hT
     have E := E.step hF2 hT2
     refine ⟨fun h => absurd h (by decide), ?_⟩
     refine M_q0 7 hT rfl (by kernel_rfl) rfl rfl rfl (fun _ _ _ h => nomatch h.1) (fun w' => q_move rfl rfl) ?_
     intro x hT
     refine M_q0 8 hT rfl (by kernel_rfl) rfl rfl rfl (fun _ _ _ h => nomatch h.1) (fun w' => q_extract rfl rfl rfl) ?_
     intro x hT
     refine M_q0 9 hT rfl (by kernel_rfl) rfl rfl rfl (fun _ _ _ h => nomatch h.1) (fun w' => q_extract rfl rfl rfl) ?_
     intro x hT
     refine M_one 11 (by kernel_rfl) ?_
     refine at_w hT rfl rfl rfl rfl (e_up E rfl) ?_
     rintro _ w ⟨b9, rfl, E, m⟩ x hT
     refine ⟨fun _ hc => (late 6 hc (by decide) (by kernel_rfl)).elim, ?_⟩
     refine M_one 12 (by kernel_rfl) ?_
     refine at_s hT rfl rfl rfl (e_st2 1 E rfl rfl rfl rfl rfl rfl) ?_
     rintro _ w E
     refine ⟨fun h => absurd h (by decide), ?_⟩
     refine M_one 13 (by kernel_rfl) ?_
     refine at_s hT rfl rfl rfl (e_stU 0 E rfl rfl rfl rfl rfl rfl rfl rfl) ?_
     rintro _ w E
     refine ⟨fun h => absurd h (by decide), ?_⟩
     refine M_end (by kernel_rfl) ?_
     exact ⟨rfl, _, _, g1, c1, S1, u, hT.sel [8, 9, 1, 2, 3, 6], E.swap, hc1, hgz, hR2⟩
    ·refine at_w hT rfl rfl rfl rfl (e_up E rfl) ?_
     rintro _ w ⟨b9, rfl, E, m⟩ x hT
     have hS := hS.trans (m.mono hS.size)
     refine ⟨fun _ _ => hS, ?_⟩
     refine M_one 6 (by kernel_rfl) ?_
     refine at_w hT rfl rfl rfl rfl (w_callN rfl rfl (by kernel_rfl) (args := [_, _, _, _]) rfl (put_any wz.heap.size g1 c1 (rt : Int) key val (N.map sk) lv rt hc1 hw (lv rt + 1) rt (by omega) _ E.hBw E.ts hw.rt)) ?_
     rintro _ w ⟨S1, u, rfl, hT2, hF2, hR2⟩ x hT
     have E := E.step hF2 hT2
     refine ⟨fun h => absurd h (by decide), ?_⟩
     refine M_q0 7 hT rfl (by kernel_rfl) rfl rfl rfl (fun _ _ _ h => nomatch h.1) (fun w' => q_move rfl rfl) ?_
     intro x hT
     refine M_q0 8 hT rfl (by kernel_rfl) rfl rfl rfl (fun _ _ _ h => nomatch h.1) (fun w' => q_extract rfl rfl rfl) ?_
     intro x hT
     refine M_q0 9 hT rfl (by kernel_rfl) rfl rfl rfl (fun _ _ _ h => nomatch h.1) (fun w' => q_extract rfl rfl rfl) ?_
     intro x hT
     refine M_one 12 (by kernel_rfl) ?_
     refine at_s hT rfl rfl rfl (e_st2 1 E rfl rfl rfl rfl rfl rfl) ?_
     rintro _ w E
     refine ⟨fun h => absurd h (by decide), ?_⟩
     refine M_one 13 (by kernel_rfl) ?_
     refine at_s hT rfl rfl rfl (e_stU 0 E rfl rfl rfl rfl rfl rfl rfl rfl) ?_
     rintro _ w E
     refine ⟨fun h => absurd h (by decide), ?_⟩
     refine M_end (by kernel_rfl) ?_
     exact ⟨rfl, _, _, g1, c1, S1, u, hT.sel [8, 9, 1, 2, 3, 6], E.swap, hc1, hgz, hR2⟩
   ·refine at_w hT rfl rfl rfl rfl (e_up E rfl) ?_
    rintro _ w ⟨b9, rfl, E, m⟩ x hT
    have hS := hS.trans (m.mono hS.size)
    refine ⟨fun _ _ => hS, ?_⟩
    refine M_two 6 10 (by kernel_rfl) ?_ ?_
    ·refine at_w hT rfl rfl rfl rfl (w_callN rfl rfl (by kernel_rfl) (args := [_, _, _, _]) rfl (put_any wz.heap.size g1 c1 (rt : Int) key val (N.map sk) lv rt hc1 hw (lv rt + 1) rt (by omega) _ E.hBw E.ts hw.rt)) ?_
     rintro _ w ⟨S1, u, rfl, hT2, hF2, hR2⟩ x hT
     have E := E.step hF2 hT2
     refine ⟨fun h => absurd h (by decide), ?_⟩
     refine M_q0 7 hT rfl (by kernel_rfl) rfl rfl rfl (fun _ _ _ h => nomatch h.1) (fun w' => q_move rfl rfl) ?_
     intro x hT
     refine M_q0 8 hT rfl (by kernel_rfl) rfl rfl rfl (fun _ _ _ h => nomatch h.1) (fun w' => q_extract rfl rfl rfl) ?_
     intro x hT
     refine M_q0 9 hT rfl (by kernel_rfl) rfl rfl rfl (fun _ _ _ h => nomatch h.1) (fun w' => q_extract rfl rfl rfl) ?_
     intro x hT
     refine M_one 10 (by kernel_rfl) ?_
     refine at_w hT rfl rfl rfl rfl (e_tree E rfl) ?_
     rintro _ w ⟨b8, rfl, E, m⟩ x hT
     refine ⟨fun _ hc => (late 6 hc (by decide) (by kernel_rfl)).elim, ?_⟩
     refine M_one 12 (by kernel_rfl) ?_
     refine at_s hT rfl rfl rfl (e_st2 0 E rfl rfl rfl rfl rfl rfl) ?_
     rintro _ w E
     refine ⟨fun h => absurd h (by decide), ?_⟩
     refine M_one 13 (by kernel_rfl) ?_
     refine at_s hT rfl rfl rfl (e_stU 1 E rfl rfl rfl rfl rfl rfl rfl rfl) ?_
     rintro _ w E
     refine ⟨fun h => absurd h (by decide), ?_⟩
     refine M_end (by kernel_rfl) ?_
     exact ⟨rfl, _, _, g1, c1, S1, u, hT.sel [8, 9, 1, 2, 3, 6], E, hc1, hgz, hR2⟩
    ·refine at_w hT rfl rfl rfl rfl (e_tree E rfl) ?_
     rintro _ w ⟨b8, rfl, E, m⟩ x hT
     have hS := hS.trans (m.mono hS.size)
     refine ⟨fun _ _ => hS, ?_⟩
     refine M_one 6 (by kernel_rfl) ?_
     refine at_w hT rfl rfl rfl rfl (w_callN rfl rfl (by kernel_rfl) (args := [_, _, _, _]) rfl (put_any wz.heap.size g1 c1 (rt : Int) key val (N.map sk) lv rt hc1 hw (lv rt + 1) rt (by omega) _ E.hBw E.ts hw.rt)) ?_
     rintro _ w ⟨S1, u, rfl, hT2, hF2, hR2⟩ x hT
     have E := E.step hF2 hT2
     refine ⟨fun h => absurd h (by decide), ?_⟩
     refine M_q0 7 hT rfl (by kernel_rfl) rfl rfl rfl (fun _ _ _ h => nomatch h.1) (fun w' => q_move rfl rfl) ?_
     intro x hT
     refine M_q0 8 hT rfl (by kernel_rfl) rfl rfl rfl (fun _ _ _ h => nomatch h.1) (fun w' => q_extract rfl rfl rfl) ?_
     intro x hT
     refine M_q0 9 hT rfl (by kernel_rfl) rfl rfl rfl (fun _ _ _ h => nomatch h.1) (fun w' => q_extract rfl rfl rfl) ?_
     intro x hT
     refine M_one 12 (by kernel_rfl) ?_
     refine at_s hT rfl rfl rfl (e_st2 0 E rfl rfl rfl rfl rfl rfl) ?_
     rintro _ w E
     refine ⟨fun h => absurd h (by decide), ?_⟩
     refine M_one 13 (by kernel_rfl) ?_
     refine at_s hT rfl rfl rfl (e_stU 1 E rfl rfl rfl rfl rfl rfl rfl rfl) ?_
     rintro _ w E
     refine ⟨fun h => absurd h (by decide), ?_⟩
     refine M_end (by kernel_rfl) ?_
     exact ⟨rfl, _, _, g1, c1, S1, u, hT.sel [8, 9, 1, 2, 3, 6], E, hc1, hgz, hR2⟩
  ·refine at_w hT rfl rfl rfl rfl (e_tree E rfl) ?_
   rintro _ w ⟨b8, rfl, E, m⟩ x hT
   have hS := hS.trans (m.mono hS.size)
   refine ⟨fun _ _ => hS, ?_⟩
   refine M_two 1 11 (by kernel_rfl) ?_ ?_
   ·refine at_w hT rfl rfl rfl rfl (w_callN rfl rfl (by kernel_rfl) (args := [_]) rfl (c_copy E.hBw (hN.below (hZ.trans (hS.mono hZ.size))) hw.small (by omega) (by omega) hc)) ?_
    rintro _ w ⟨g1, c1, rfl, hc1, hg1, hT1, m⟩ x hT
    have hS := hS.trans (m.mono hS.size)
    have hgz := Nat.le_trans E.size hg1
    have E := E.change m (hZ.trans (hS.mono hZ.size)) hT1 E.size hg1
    refine ⟨fun _ _ => hS, ?_⟩
    refine M_two 6 11 (by kernel_rfl) ?_ ?_
    ·refine at_w hT rfl rfl rfl rfl (w_callN rfl rfl (by kernel_rfl) (args := [_, _, _, _]) rfl (put_any wz.heap.size g1 c1 (rt : Int) key val (N.map sk) lv rt hc1 hw (lv rt + 1) rt (by omega) _ E.hBw E.ts hw.rt)) ?_
     rintro _ w ⟨S1, u, rfl, hT2, hF2, hR2⟩ x hT
     have E := E.step hF2 hT2
     refine ⟨fun h => absurd h (by decide), ?_⟩
     refine M_q0 7 hT rfl (by kernel_rfl) rfl rfl rfl (fun _ _ _ h => nomatch h.1) (fun w' => q_move rfl rfl) ?_
     intro x hT
     refine M_q0 8 hT rfl (by kernel_rfl) rfl rfl rfl (fun _ _ _ h => nomatch h.1) (fun w' => q_extract rfl rfl rfl) ?_
     intro x hT
     refine M_q0 9 hT rfl (by kernel_rfl) rfl rfl rfl (fun _ _ _ h => nomatch h.1) (fun w' => q_extract rfl rfl rfl) ?_
     intro x hT
     refine M_one 11 (by kernel_rfl) ?_
     refine at_w hT rfl rfl rfl rfl (e_up E rfl) ?_
     rintro _ w ⟨b9, rfl, E, m⟩ x hT
     refine ⟨fun _ hc => (late 6 hc (by decide) (by kernel_rfl)).elim, ?_⟩
     refine M_one 12 (by kernel_rfl) ?_
     refine at_s hT rfl rfl rfl (e_st2 1 E rfl rfl rfl rfl rfl rfl) ?_
     rintro _ w E
     refine ⟨fun h => absurd h (by decide), ?_⟩
     refine M_one 13 (by kernel_rfl) ?_
     refine at_s hT rfl rfl rfl (e_stU 0 E rfl rfl rfl rfl rfl rfl rfl rfl) ?_
     rintro _ w E
     refine ⟨fun h => absurd h (by decide), ?_⟩
     refine M_end (by kernel_rfl) ?_
     exact ⟨rfl, _, _, g1, c1, S1, u, hT.sel [8, 9, 1, 2, 3, 6], E.swap, hc1, hgz, hR2⟩
    ·refine at_w hT rfl rfl rfl rfl (e_up E rfl) ?_
     rintro _ w ⟨b9, rfl, E, m⟩ x hT
     have hS := hS.trans (m.mono hS.size)
     refine ⟨fun _ _ => hS, ?_⟩
     refine M_one 6 (by kernel_rfl) ?_
     refine at_w hT rfl rfl rfl rfl (w_callN rfl rfl (by kernel_rfl) (args := [_, _, _, _]) rfl (put_any wz.heap.size g1 c1 (rt : Int) key val (N.map sk) lv rt hc1 hw (lv rt + 1) rt (by omega) _ E.hBw E.ts hw.rt)) ?_
     rintro _ w ⟨S1, u, rfl, hT2, hF2, hR2⟩ x hT
     have E := E.step hF2 hT2
     refine ⟨fun h => absurd h (by decide), ?_⟩
     refine M_q0 7 hT rfl (by kernel_rfl) rfl rfl rfl (fun _ _ _ h => nomatch h.1) (fun w' => q_move rfl rfl) ?_
     intro x hT
     refine M_q0 8 hT rfl (by kernel_rfl) rfl rfl rfl (fun _ _ _ h => nomatch h.1) (fun w' => q_extract rfl rfl rfl) ?_
     intro x hT
     refine M_q0 9 hT rfl (by kernel_rfl) rfl rfl rfl (fun _ _ _ h => nomatch h.1) (fun w' => q_extract rfl rfl rfl) ?_
     intro x hT
     refine M_one 12 (by kernel_rfl) ?_
     refine at_s hT rfl rfl rfl (e_st2 1 E rfl rfl rfl rfl rfl rfl) ?_
     rintro _ w E
     refine ⟨fun h => absurd h (by decide), ?_⟩
     refine M_one 13 (by kernel_rfl) ?_
     refine at_s hT rfl rfl rfl (e_stU 0 E rfl rfl rfl rfl rfl rfl rfl rfl) ?_
     rintro _ w E
     refine ⟨fun h => absurd h (by decide), ?_⟩
     refine M_end (by kernel_rfl) ?_
     exact ⟨rfl, _, _, g1, c1, S1, u, hT.sel [8, 9, 1, 2, 3, 6], E.swap, hc1, hgz, hR2⟩
   ·refine at_w hT rfl rfl rfl rfl (e_up E rfl) ?_
    rintro _ w ⟨b9, rfl, E, m⟩ x hT
    have hS := hS.trans (m.mono hS.size)
    refine ⟨fun _ _ => hS, ?_⟩
    refine M_one 1 (by kernel_rfl) ?_
    refine at_w hT rfl rfl rfl rfl (w_callN rfl rfl (by kernel_rfl) (args := [_]) rfl (c_copy E.hBw (hN.below (hZ.trans (hS.mono hZ.size))) hw.small (by omega) (by omega) hc)) ?_
    rintro _ w ⟨g1, c1, rfl, hc1, hg1, hT1, m⟩ x hT
    have hS := hS.trans (m.mono hS.size)
    have hgz := Nat.le_trans E.size hg1
    have E := E.change m (hZ.trans (hS.mono hZ.size)) hT1 E.size hg1
    refine ⟨fun _ _ => hS, ?_⟩
    refine M_one 6 (by kernel_rfl) ?_
    refine at_w hT rfl rfl rfl rfl (w_callN rfl rfl (by kernel_rfl) (args := [_, _, _, _]) rfl (put_any wz.heap.size g1 c1 (rt : Int) key val (N.map sk) lv rt hc1 hw (lv rt + 1) rt (by omega) _ E.hBw E.ts hw.rt)) ?_
    rintro _ w ⟨S1, u, rfl, hT2, hF2, hR2⟩ x hT
    have E := E.step hF2 hT2
    refine ⟨fun h => absurd h (by decide), ?_⟩
    refine M_q0 7 hT rfl (by kernel_rfl) rfl rfl rfl (fun _ _ _ h => nomatch h.1) (fun w' => q_move rfl rfl) ?_
    intro x hT
    refine M_q0 8 hT rfl (by kernel_rfl) rfl rfl rfl (fun _ _ _ h => nomatch h.1) (fun w' => q_extract rfl rfl rfl) ?_
    intro x hT
    refine M_q0 9 hT rfl (by kernel_rfl) rfl rfl rfl (fun _ _ _ h => nomatch h.1) (fun w' => q_extract rfl rfl rfl) ?_
    intro x hT
    refine M_one 12 (by kernel_rfl) ?_
    refine at_s hT rfl rfl rfl (e_st2 1 E rfl rfl rfl rfl rfl rfl) ?_
    rintro _ w E
    refine ⟨fun h => absurd h (by decide), ?_⟩
    refine M_one 13 (by kernel_rfl) ?_
    refine at_s hT rfl rfl rfl (e_stU 0 E rfl rfl rfl rfl rfl rfl rfl rfl) ?_
    rintro _ w E
    refine ⟨fun h => absurd h (by decide), ?_⟩
    refine M_end (by kernel_rfl) ?_
    exact ⟨rfl, _, _, g1, c1, S1, u, hT.sel [8, 9, 1, 2, 3, 6], E.swap, hc1, hgz, hR2⟩
  ·refine at_w hT rfl rfl rfl rfl (e_up E rfl) ?_
   rintro _ w ⟨b9, rfl, E, m⟩ x hT
   have hS := hS.trans (m.mono hS.size)
   refine ⟨fun _ _ => hS, ?_⟩
   refine M_two 1 10 (by kernel_rfl) ?_ ?_
   ·refine at_w hT rfl rfl rfl rfl (w_callN rfl rfl (by kernel_rfl) (args := [_]) rfl (c_copy E.hBw (hN.below (hZ.trans (hS.mono hZ.size))) hw.small (by omega) (by omega) hc)) ?_
    rintro _ w ⟨g1, c1, rfl, hc1, hg1, hT1, m⟩ x hT
    have hS := hS.trans (m.mono hS.size)
    have hgz := Nat.le_trans E.size hg1
    have E := E.change m (hZ.trans (hS.mono hZ.size)) hT1 E.size hg1
    refine ⟨fun _ _ => hS, ?_⟩
    refine M_two 6 10 (by kernel_rfl) ?_ ?_
    ·refine at_w hT rfl rfl rfl rfl (w_callN rfl rfl (by kernel_rfl) (args := [_, _, _, _]) rfl (put_any wz.heap.size g1 c1 (rt : Int) key val (N.map sk) lv rt hc1 hw (lv rt + 1) rt (by omega) _ E.hBw E.ts hw.rt)) ?_
     rintro _ w ⟨S1, u, rfl, hT2, hF2, hR2⟩ x hT
     have E := E.step hF2 hT2
     refine ⟨fun h => absurd h (by decide), ?_⟩
     refine M_q0 7 hT rfl (by kernel_rfl) rfl rfl rfl (fun _ _ _ h => nomatch h.1) (fun w' => q_move rfl rfl) ?_
     intro x hT
     refine M_q0 8 hT rfl (by kernel_rfl) rfl rfl rfl (fun _ _ _ h => nomatch h.1) (fun w' => q_extract rfl rfl rfl) ?_
     intro x hT
     refine M_q0 9 hT rfl (by kernel_rfl) rfl rfl rfl (fun _ _ _ h => nomatch h.1) (fun w' => q_extract rfl rfl rfl) ?_
     intro x hT
     refine M_one 10 (by kernel_rfl) ?_
     refine at_w hT rfl rfl rfl rfl (e_tree E rfl) ?_
     rintro _ w ⟨b8, rfl, E, m⟩ x hT
     refine ⟨fun _ hc => (late 6 hc (by decide) (by kernel_rfl)).elim, ?_⟩
     refine M_one 12 (by kernel_rfl) ?_
     refine at_s hT rfl rfl rfl (e_st2 0 E rfl rfl rfl rfl rfl rfl) ?_
     rintro _ w E
     refine ⟨fun h => absurd h (by decide), ?_⟩
     refine M_one 13 (by kernel_rfl) ?_
     refine at_s hT rfl rfl rfl (e_stU 1 E rfl rfl rfl rfl rfl rfl rfl rfl) ?_
     rintro _ w E
     refine ⟨fun h => absurd h (by decide), ?_⟩
     refine M_end (by kernel_rfl) ?_
     exact ⟨rfl, _, _, g1, c1, S1, u, hT.sel [8, 9, 1, 2, 3, 6], E, hc1, hgz, hR2⟩
    ·refine at_w hT rfl rfl rfl rfl (e_tree E rfl) ?_
     rintro _ w ⟨b8, rfl, E, m⟩ x hT
     have hS := hS.trans (m.mono hS.size)
     refine ⟨fun _ _ => hS, ?_⟩
     refine M_one 6 (by kernel_rfl) ?_
     refine at_w hT rfl rfl rfl rfl (w_callN rfl rfl (by kernel_rfl) (args := [_, _, _, _]) rfl (put_any wz.heap.size g1 c1 (rt : Int) key val (N.map sk) lv rt hc1 hw (lv rt + 1) rt (by omega) _ E.hBw E.ts hw.rt)) ?_
     rintro _ w ⟨S1, u, rfl, hT2, hF2, hR2⟩ x hT
     have E := E.step hF2 hT2
     refine ⟨fun h => absurd h (by decide), ?_⟩
     refine M_q0 7 hT rfl (by kernel_rfl) rfl rfl rfl (fun _ _ _ h => nomatch h.1) (fun w' => q_move rfl rfl) ?_
     intro x hT
     refine M_q0 8 hT rfl (by kernel_rfl) rfl rfl rfl (fun _ _ _ h => nomatch h.1) (fun w' => q_extract rfl rfl rfl) ?_
     intro x hT
     refine M_q0 9 hT rfl (by kernel_rfl) rfl rfl rfl (fun _ _ _ h => nomatch h.1) (fun w' => q_extract rfl rfl rfl) ?_
     intro x hT
     refine M_one 12 (by kernel_rfl) ?_
     refine at_s hT rfl rfl rfl (e_st2 0 E rfl rfl rfl rfl rfl rfl) ?_
     rintro _ w E
     refine ⟨fun h => absurd h (by decide), ?_⟩
     refine M_one 13 (by kernel_rfl) ?_
     refine at_s hT rfl rfl rfl (e_stU 1 E rfl rfl rfl rfl rfl rfl rfl rfl) ?_
     rintro _ w E
     refine ⟨fun h => absurd h (by decide), ?_⟩
     refine M_end (by kernel_rfl) ?_
     exact ⟨rfl, _, _, g1, c1, S1, u, hT.sel [8, 9, 1, 2, 3, 6], E, hc1, hgz, hR2⟩
   ·refine at_w hT rfl rfl rfl rfl (e_tree E rfl) ?_
    rintro _ w ⟨b8, rfl, E, m⟩ x hT
    have hS := hS.trans (m.mono hS.size)
    refine ⟨fun _ _ => hS, ?_⟩
    refine M_one 1 (by kernel_rfl) ?_
    refine at_w hT rfl rfl rfl rfl (w_callN rfl rfl (by kernel_rfl) (args := [_]) rfl (c_copy E.hBw (hN.below (hZ.trans (hS.mono hZ.size))) hw.small (by omega) (by omega) hc)) ?_
    rintro _ w ⟨g1, c1, rfl, hc1, hg1, hT1, m⟩ x hT
    have hS := hS.trans (m.mono hS.size)
    have hgz := Nat.le_trans E.size hg1
    have E := E.change m (hZ.trans (hS.mono hZ.size)) hT1 E.size hg1
    refine ⟨fun _ _ => hS, ?_⟩
    refine M_one 6 (by kernel_rfl) ?_
    refine at_w hT rfl rfl rfl rfl (w_callN rfl rfl (by kernel_rfl) (args := [_, _, _, _]) rfl (put_any wz.heap.size g1 c1 (rt : Int) key val (N.map sk) lv rt hc1 hw (lv rt + 1) rt (by omega) _ E.hBw E.ts hw.rt)) ?_
    rintro _ w ⟨S1, u, rfl, hT2, hF2, hR2⟩ x hT
    have E := E.step hF2 hT2
    refine ⟨fun h => absurd h (by decide), ?_⟩
    refine M_q0 7 hT rfl (by kernel_rfl) rfl rfl rfl (fun _ _ _ h => nomatch h.1) (fun w' => q_move rfl rfl) ?_
    intro x hT
    refine M_q0 8 hT rfl (by kernel_rfl) rfl rfl rfl (fun _ _ _ h => nomatch h.1) (fun w' => q_extract rfl rfl rfl) ?_
    intro x hT
    refine M_q0 9 hT rfl (by kernel_rfl) rfl rfl rfl (fun _ _ _ h => nomatch h.1) (fun w' => q_extract rfl rfl rfl) ?_
    intro x hT
    refine M_one 12 (by kernel_rfl) ?_
    refine at_s hT rfl rfl rfl (e_st2 0 E rfl rfl rfl rfl rfl rfl) ?_
    rintro _ w E
    refine ⟨fun h => absurd h (by decide), ?_⟩
    refine M_one 13 (by kernel_rfl) ?_
    refine at_s hT rfl rfl rfl (e_stU 1 E rfl rfl rfl rfl rfl rfl rfl rfl) ?_
    rintro _ w E
    refine ⟨fun h => absurd h (by decide), ?_⟩
    refine M_end (by kernel_rfl) ?_
    exact ⟨rfl, _, _, g1, c1, S1, u, hT.sel [8, 9, 1, 2, 3, 6], E, hc1, hgz, hR2⟩
 rintro x w ⟨b8, b9, g1, c1, S1, u, hT, E, hc1, hgz, hR1⟩
 unfold Tm.keepP at hT
 unfold Env.atG at E
 obtain ⟨usp, ukey, unode, uful⟩ := u
 simp only at hT E hR1
 show Code.wp _ _ _ _ _
 refine wp_seq ?_
 refine wp_seq ?_
 refine wp_region_lit ?_
 refine lq hT (q_field rfl rfl fU rfl) fun x hT => ?_
 refine lq hT (q_load rfl rfl (l_bool (by exact E.cell (k := 1) rfl rfl))) fun x hT => ?_
 refine wpList_nil ?_
 show Code.wp _ _ _ _ _
 cases uful with
 | true =>
  refine wp_cond_true (hT.ev rfl) ?_
  refine wp_seq ?_
  refine wp_region_lit ?_
  refine lq hT (q_load rfl rfl (l_tree (by exact E.cell (k := 3) rfl rfl) (by exact E.cell (k := 3) rfl rfl))) fun x hT => ?_
  refine L_w hT rfl rfl rfl (w_callN rfl rfl (by kernel_rfl) (args := [_]) rfl (c_copy (Nat.le_trans hB E.size) (hN.below E.fr.below) hw.small (by omega) (by omega) hc)) ?_
  rintro _ w ⟨g2, c2, rfl, hc2, hg2, hT2, m⟩ x hT
  have E := E.change m (E.fr.below.trans (m.mono E.size)) hT2 E.size hg2
  refine L_s hT rfl rfl (e_st2 2 E rfl rfl rfl rfl rfl rfl) ?_
  rintro _ w E
  refine lq hT (q_assign rfl rfl) fun x hT => ?_
  refine wpList_nil ?_
  show Code.wp _ _ _ _ _
  refine wp_ret ?_
  repeat refine then_ret ?_
  show bodyPost _ _ _ _ _ _
  refine ret_ti hT rfl rfl rfl (E.bx _ (nth_mem (k := 2) rfl)) ?_
  exact ⟨_, rfl, _, 2, rfl, ⟨rt, g2, c2, N.map sk, lv, rfl, hc2, E.ts, hw⟩, E.fr.below⟩
 | false =>
 have hR1 : PutR (N.map sk) lv rt rt S1 usp unode := hR1.resolve_left (by simp)
 have hl1 : S1.length = (N.map sk).length := by
  obtain ⟨lv1, w1, _⟩ := hR1
  rw [w1.len, hl]
 refine wp_cond_false (hT.ev rfl) ?_
 refine wp_skip ?_
 show Code.wp _ _ _ _ _
 refine wp_seq ?_
 refine wp_seq ?_
 refine wp_region_lit ?_
 refine lq hT (q_field rfl rfl fU rfl) fun x hT => ?_
 refine lq hT (q_load rfl rfl (l_bool (by exact E.cell (k := 1) rfl rfl))) fun x hT => ?_
 refine wpList_nil ?_
 show Code.wp _ _ _ _ _
 cases usp with
 | false =>
  refine wp_cond_false (hT.ev rfl) ?_
  refine wp_skip ?_
  show Code.wp _ _ _ _ _
  refine wp_seq ?_
  refine wp_region_lit ?_
  refine lq hT (q_load rfl rfl (l_tree (by exact E.cell (k := 0) rfl rfl) (by exact E.cell (k := 0) rfl rfl))) fun x hT => ?_
  refine L_s hT rfl rfl (e_st2 2 E rfl rfl rfl rfl rfl rfl) ?_
  rintro _ w E
  refine lq hT (q_assign rfl rfl) fun x hT => ?_
  refine wpList_nil ?_
  show Code.wp _ _ _ _ _
  refine wp_ret ?_
  repeat refine then_ret ?_
  show bodyPost _ _ _ _ _ _
  refine ret_ti hT rfl rfl rfl (E.bx _ (nth_mem (k := 2) rfl)) ?_
  obtain ⟨lv1, w1, _⟩ := hR1
  exact ⟨_, rfl, _, 0, rfl, ⟨rt, g1, c1, S1, lv1, by rw [hl1], by rw [hl1]; exact hc1, E.ts, w1⟩, E.fr.below⟩
 | true =>
  refine wp_cond_true (hT.ev rfl) ?_
  refine wp_seq ?_
  refine wp_region_lit ?_
  refine lq hT (q_load rfl rfl (l_tree (by exact E.cell (k := 0) rfl rfl) (by exact E.cell (k := 0) rfl rfl))) fun x hT => ?_
  refine L_w hT rfl rfl rfl (w_callN rfl rfl (by kernel_rfl) (args := [_]) rfl (by have := c_free (root := (rt : Int)) (c := c1) E.ts (by rw [hl1, hl]; omega) (by rw [hl1]; exact hc1); rw [hl1] at this; exact this)) ?_
  rintro _ w ⟨r, rfl, hr, m⟩ x hT
  have E := E.below m
  refine lq hT (q_assign rfl rfl) fun x hT => ?_
  refine wpList_nil ?_
  show Code.wp _ _ _ _ _
  refine wp_seq ?_
  refine wp_seq ?_
  refine wp_region_lit ?_
  refine lq hT (q_move rfl rfl) fun x hT => ?_
  refine lq hT (q_bin rfl rfl rfl n_lt) fun x hT => ?_
  refine wpList_nil ?_
  show Code.wp _ _ _ _ _
  rcases hr with rfl | ⟨f2, rfl, hf2⟩
  ·refine wp_cond_true (hT.ev rfl) ?_
   refine wp_seq ?_
   refine wp_region_lit ?_
   refine lq hT (q_load rfl rfl (l_tree (by exact E.cell (k := 3) rfl rfl) (by exact E.cell (k := 3) rfl rfl))) fun x hT => ?_
   refine L_w hT rfl rfl rfl (w_callN rfl rfl (by kernel_rfl) (args := [_]) rfl (c_copy (Nat.le_trans hB E.size) (hN.below E.fr.below) hw.small (by omega) (by omega) hc)) ?_
   rintro _ w ⟨g2, c2, rfl, hc2, hg2, hT2, m⟩ x hT
   have E := E.change m (E.fr.below.trans (m.mono E.size)) hT2 E.size hg2
   refine L_s hT rfl rfl (e_st2 2 E rfl rfl rfl rfl rfl rfl) ?_
   rintro _ w E
   refine lq hT (q_assign rfl rfl) fun x hT => ?_
   refine wpList_nil ?_
   show Code.wp _ _ _ _ _
   refine wp_ret ?_
   repeat refine then_ret ?_
   show bodyPost _ _ _ _ _ _
   refine ret_ti hT rfl rfl rfl (E.bx _ (nth_mem (k := 2) rfl)) ?_
   exact ⟨_, rfl, _, 2, rfl, ⟨rt, g2, c2, N.map sk, lv, rfl, hc2, E.ts, hw⟩, E.fr.below⟩
  have hf0 : decide ((f2 : Int) < 0) = false := decide_eq_false (by omega)
  have hf2l := (List.getElem?_eq_some_iff.1 hf2).1
  refine wp_cond_false ((hT.ev rfl).trans (congrArg Value.bool hf0)) ?_
  refine wp_skip ?_
  show Code.wp _ _ _ _ _
  refine wp_seq ?_
  refine wp_cut (fun x w => hT.keep [1, 2, 3, 6, 7, 8, 9, 10] x ∧ E.at (S1.set f2 (false, 1, 0, [(rt : Int), unode])) w) ?_ ?_
  ·refine wp_region_M (n := 14) (Below w.drew.heap.size w.drew) [0, 1, 2, 3, 4, 5, 6, 7, 8, 9, 10, 11, 12] [] (by kernel_rfl) rfl ?_
   have hS := Below.refl w.drew.heap.size w.drew
   have E0 := E.below (below_drew w)
   have E := E0
   refine mQ 0 [1, 12, 13] hT hS rfl (fun w' hw => q_field rfl rfl fT rfl) fun x hT => ?_
   refine mQ 1 [12, 13] hT hS rfl (fun w' hw => q_load rfl rfl (l_sn (ck (by exact E0.cell (k := 0) rfl rfl) w' hw))) fun x hT => ?_
   refine mQ 2 [12, 13] hT hS rfl (fun w' hw => q_move rfl rfl) fun x hT => ?_
   refine mQ 3 [4, 5, 11, 12, 13] hT hS rfl (fun w' hw => q_field rfl rfl fU rfl) fun x hT => ?_
   refine mQ 4 [5, 11, 12, 13] hT hS rfl (fun w' hw => q_load rfl rfl (l_str (ck (by exact E0.cell (k := 1) rfl rfl) w' hw))) fun x hT => ?_
   refine mQ 6 [7, 10, 11, 12, 13] hT hS rfl (fun w' hw => q_field rfl rfl fT rfl) fun x hT => ?_
   refine mQ 7 [10, 11, 12, 13] hT hS rfl (fun w' hw => q_load rfl rfl (l_int (ck (by exact E0.cell (k := 0) rfl rfl) w' hw))) fun x hT => ?_
   refine mQ 8 [9, 10, 11, 12, 13] hT hS rfl (fun w' hw => q_field rfl rfl fU rfl) fun x hT => ?_
   refine mQ 9 [10, 11, 12, 13] hT hS rfl (fun w' hw => q_load rfl rfl (l_int (ck (by exact E0.cell (k := 1) rfl rfl) w' hw))) fun x hT => ?_
   refine M_two 5 10 (by kernel_rfl) ?_ ?_
   ·refine at_w hT rfl rfl rfl rfl (lit_s rfl rfl hS.size) ?_
    rintro _ w ⟨r1, m⟩ x hT
    have hS := hS.trans (m.mono hS.size)
    have E := E.below m
    refine ⟨fun _ _ => hS, ?_⟩
    refine M_one 10 (by kernel_rfl) ?_
    refine at_w hT rfl rfl rfl rfl (lit_i2 rfl rfl rfl hS.size) ?_
    rintro _ w ⟨r2, m⟩ x hT
    have hS := hS.trans (m.mono hS.size)
    have E := E.below m
    have r1 := RD.below (r := .s _ _) r1 m
    refine ⟨fun _ _ => hS, ?_⟩
    refine M_one 11 (by kernel_rfl) ?_
    refine at_w hT rfl rfl rfl rfl (w_callN rfl rfl (by kernel_rfl) (args := [_, _]) rfl (c_innerOf E.hBw (RD.ss r1) (RD.si r2) (by omega) (by simp))) ?_
    rintro _ w ⟨r3, m⟩ x hT
    have hS := hS.trans (m.mono hS.size)
    have E := E.below m
    refine ⟨fun _ _ => hS, ?_⟩
    refine mQ 12 [13] hT hS rfl (fun w' hw => q_index rfl rfl rfl (i_node (by omega))) fun x hT => ?_
    refine M_one 13 (by kernel_rfl) ?_
    refine at_s hT rfl rfl rfl (e_stN E rfl rfl rfl r3 hf2l) ?_
    rintro _ w E
    refine ⟨fun h => absurd h (by decide), ?_⟩
    refine M_end (by kernel_rfl) ?_
    exact ⟨rfl, hT.sel [1, 2, 3, 6, 7, 8, 9, 10], E⟩
   ·refine at_w hT rfl rfl rfl rfl (lit_i2 rfl rfl rfl hS.size) ?_
    rintro _ w ⟨r2, m⟩ x hT
    have hS := hS.trans (m.mono hS.size)
    have E := E.below m
    refine ⟨fun _ _ => hS, ?_⟩
    refine M_one 5 (by kernel_rfl) ?_
    refine at_w hT rfl rfl rfl rfl (lit_s rfl rfl hS.size) ?_
    rintro _ w ⟨r1, m⟩ x hT
    have hS := hS.trans (m.mono hS.size)
    have E := E.below m
    have r2 := RD.below (r := .i _ _) r2 m
    refine ⟨fun _ _ => hS, ?_⟩
    refine M_one 11 (by kernel_rfl) ?_
    refine at_w hT rfl rfl rfl rfl (w_callN rfl rfl (by kernel_rfl) (args := [_, _]) rfl (c_innerOf E.hBw (RD.ss r1) (RD.si r2) (by omega) (by simp))) ?_
    rintro _ w ⟨r3, m⟩ x hT
    have hS := hS.trans (m.mono hS.size)
    have E := E.below m
    refine ⟨fun _ _ => hS, ?_⟩
    refine mQ 12 [13] hT hS rfl (fun w' hw => q_index rfl rfl rfl (i_node (by omega))) fun x hT => ?_
    refine M_one 13 (by kernel_rfl) ?_
    refine at_s hT rfl rfl rfl (e_stN E rfl rfl rfl r3 hf2l) ?_
    rintro _ w E
    refine ⟨fun h => absurd h (by decide), ?_⟩
    refine M_end (by kernel_rfl) ?_
    exact ⟨rfl, hT.sel [1, 2, 3, 6, 7, 8, 9, 10], E⟩
  rintro x w ⟨hT, E⟩
  unfold Tm.keep at hT
  unfold Env.at at E
  show Code.wp _ _ _ _ _
  refine wp_region_lit ?_
  refine lq hT (q_move rfl rfl) fun x hT => ?_
  refine lq hT (q_field rfl rfl fT rfl) fun x hT => ?_
  refine L_s hT rfl rfl (e_st1 0 E rfl rfl rfl rfl rfl rfl) ?_
  rintro _ w E
  refine wpList_nil ?_
  show Code.wp _ _ _ _ _
  refine wp_seq ?_
  refine wp_region_lit ?_
  refine lq hT (q_load rfl rfl (l_tree (by exact E.cell (k := 0) rfl rfl) (by exact E.cell (k := 0) rfl rfl))) fun x hT => ?_
  refine L_s hT rfl rfl (e_st2 2 E rfl rfl rfl rfl rfl rfl) ?_
  rintro _ w E
  refine lq hT (q_assign rfl rfl) fun x hT => ?_
  refine wpList_nil ?_
  show Code.wp _ _ _ _ _
  refine wp_ret ?_
  repeat refine then_ret ?_
  show bodyPost _ _ _ _ _ _
  refine ret_ti hT rfl rfl rfl (E.bx _ (nth_mem (k := 2) rfl)) ?_
  obtain ⟨lv1, w1, l1, _, ⟨s, hs1, hs2, hs3⟩, h5⟩ := hR1
  obtain ⟨f, rfl, e2, ⟨t, e3, e4, _⟩, e5, e6⟩ := h5 rfl
  have hg := w1.grow (f2 := f2) hs1 hs2 (hs3 rfl) e2 e3 e4 (by rw [e5, (l1 rt hw.rt).1]) e6 hf2
  refine ⟨_, rfl, _, 0, rfl, ⟨f2, g1, c1, S1.set f2 (false, 1, 0, [(rt : Int), (f : Int)]), fun i => if i = f2 then lv1 rt + 1 else lv1 i, ?_, ?_, E.ts, hg⟩, E.fr.below⟩
  ·rw [List.length_set, hl1]
  ·rw [List.length_set, hl1]
   exact hc1
end Go.Proofs.Ytcolgghllacloaa.Tm
end
