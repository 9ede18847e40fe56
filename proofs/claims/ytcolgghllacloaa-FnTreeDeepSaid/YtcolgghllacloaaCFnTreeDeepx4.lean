/- A part of the proof that the law FnTreeDeep answers true for every input: contracts of functions that it reaches, or its plain law. -/
import Derived.Deep.RegionHeld3
import Derived.Deep.LoopGhost
import Derived.Deep.AppendLies
import Derived.Deep.RegionLaw
import Derived.OneCell
import Derived.Laws.Cover1
import Derived.Test.YtcolgghllacloaaProg
import Derived.Below
import Derived.Deep.Draws
import Derived.Maps.AppendAt
import Derived.OwnWalk
import Derived.Laws.BytesArg
import Derived.Laws.MakeOwn
import Derived.Laws.OwnMore
import Derived.Deep.OwnRows
import Derived.Tactics
import Derived.Lib.ConvBytes
import Derived.Laws.Slices
import Derived.WalkKit
import Derived.KernelRfl
import Derived.RowKit3
import Derived.Deep.QuietTactic
import Derived.BigQuiet
import Derived.WideLaws
import Derived.Deep.DeepCutAuto
import Derived.Deep.CutBlock
import Derived.Laws.Rows
import Derived.Lib.AppendStr
import Derived.ArgAppend
import Derived.Laws.IdiomCopy
import Derived.OrdersHeld
import Derived.Laws.BitsLemmas
import Derived.RowKit
import Derived.Laws.StructEq
import Derived.Test.YtcolgghllacloaaCFnTreeDeepx0
import Derived.Test.YtcolgghllacloaaCFnTreeDeepx1
import Derived.Test.YtcolgghllacloaaCFnTreeDeepx2
import Derived.Test.YtcolgghllacloaaCFnTreeDeepx3
set_option autoImplicit false
set_option linter.unusedVariables false
set_option linter.unusedSimpArgs false
namespace Go.Proofs.Ytcolgghllacloaa.Q
end Go.Proofs.Ytcolgghllacloaa.Q
namespace Go.Proofs.Ytcolgghllacloaa.R
end Go.Proofs.Ytcolgghllacloaa.R
namespace Go.Proofs.YtcolgghllacloaaW.PrintLast
end Go.Proofs.YtcolgghllacloaaW.PrintLast
namespace Go.Proofs.YtcolgghllacloaaW.PrintMore
end Go.Proofs.YtcolgghllacloaaW.PrintMore
namespace Go.Proofs.YtcolgghllacloaaW.PrintWords
end Go.Proofs.YtcolgghllacloaaW.PrintWords
section
namespace Go.Proofs.Ytcolgghllacloaa.Tm
open Go.Rf (RowIn strs ints rep nodeT)
open Go.RowKit Go.Proofs.Ytcolgghllacloaa.Q Go.Proofs.YtcolgghllacloaaW.PrintWords Go.Proofs.YtcolgghllacloaaW.PrintLast Go.Proofs.YtcolgghllacloaaW.PrintMore
def CellsAt (W : World) (B : Nat) (t : TypeId) (cs : Array Value) : Prop := W.heap[B]? = some (.cells cs t (0, 0))
section
variable {W W' : World} {B : Nat} {t : TypeId} {cs : Array Value}
theorem CellsAt.lt (h : CellsAt W B t cs) : B < W.heap.size := (Array.getElem?_eq_some_iff.1 h).1
theorem CellsAt.new (W : World) (t : TypeId) (cs : Array Value) : CellsAt (W.alloc (.cells cs t)) W.heap.size t cs := by show (W.heap.push _)[W.heap.size]? = _; simp
theorem CellsAt.below {n : Nat} (h : CellsAt W B t cs) (hb : Below n W W') (hn : B < n) : CellsAt W' B t cs := (hb.block B hn).trans h
theorem CellsAt.alloc (h : CellsAt W B t cs) (o : Obj) : CellsAt (W.alloc o) B t cs := (Below.heap_alloc W o B h.lt).trans h
theorem CellsAt.cell (h : CellsAt W B t cs) (j : Nat) : W.cell? ⟨B, j, none⟩ = cs[j]? := by
 simp [World.cell?, show W.heap[B]? = _ from h]
theorem CellsAt.frozen (h : CellsAt W B t cs) (j : Nat) : W.frozen? ⟨B, j, none⟩ = false := by simp [World.frozen?, show W.heap[B]? = _ from h]
theorem CellsAt.set (h : CellsAt W B t cs) (j : Nat) (u : Value) : CellsAt (W.setCell ⟨B, j, none⟩ u) B t (cs.setIfInBounds j u) := by
 have hlt := h.lt
 have h' : W.heap[B] = .cells cs t (0, 0) := by have := h; unfold CellsAt at this; simpa [Array.getElem?_eq_getElem hlt] using this
 show (W.heap.modify B _)[B]? = _
 rw [Array.getElem?_eq_getElem (by simpa using hlt), Array.getElem_modify_self, h']
 rfl
theorem CellsAt.other (h : CellsAt W B t cs) {b j : Nat} (hne : B ≠ b) (u : Value) : CellsAt (W.setCell ⟨b, j, none⟩ u) B t cs := (Below.heap_setCell _ _ _ _ hne).trans h
end
abbrev Nd := Bool × List ByteArray × List ByteArray × List Int × Unit
abbrev Sk := Bool × Nat × Nat × List Int
def sk (n : Nd) : Sk := (n.1, n.2.1.length, n.2.2.1.length, n.2.2.2.1)
theorem below_drew (w : World) : Below w.heap.size w w.drew := ⟨rfl, rfl, rfl, Nat.le_refl _, fun _ _ => rfl⟩
structure Fr (B g : Nat) (w w' : World) : Prop where
 below : Below B w w'
 gn : (∃ cur, CellsAt w g 72 cur) ∨ w.heap.size ≤ g
 kept : ∀ (b : Nat) cs t fz, w.heap[b]? = some (.cells cs t fz) → b ≠ g → t ≠ 9 → w'.heap[b]? = some (.cells cs t fz)
 strs : ∀ (b : Nat) cs fz, w.heap[b]? = some (.cells cs 9 fz) → ∃ cs', w'.heap[b]? = some (.cells cs' 9 fz) ∧ cs'.size = cs.size ∧ ∀ (j : Nat) s, cs[j]? = some (.string s) → ∃ s', cs'[j]? = some (.string s')
 gk : ∀ cur, CellsAt w g 72 cur → ∃ cur', CellsAt w' g 72 cur'
section
variable {w w' w'' : World} {B g g' : Nat} {cur : Array Value}
theorem Fr.size (F : Fr B g w w') : w.heap.size ≤ w'.heap.size := F.below.size
theorem Fr.refl (hg : (∃ cur, CellsAt w g 72 cur) ∨ w.heap.size ≤ g) : Fr B g w w := ⟨Below.refl _ _, hg, fun _ _ _ _ h _ _ => h, fun _ cs _ h => ⟨cs, h, rfl, fun _ s hs => ⟨s, hs⟩⟩, fun cur h => ⟨cur, h⟩⟩
theorem Fr.trans (F : Fr B g w w') (F' : Fr B g w' w'') : Fr B g w w'' := by
 refine ⟨F.below.trans F'.below, F.gn, fun b cs t fz h h1 h2 => F'.kept b cs t fz (F.kept b cs t fz h h1 h2) h1 h2, fun b cs fz h => ?_, fun cur h => ?_⟩
 ·obtain ⟨c1, k1, k2, k3⟩ := F.strs b cs fz h
  obtain ⟨c2, l1, l2, l3⟩ := F'.strs b c1 fz k1
  refine ⟨c2, l1, l2.trans k2, fun j s hs => ?_⟩
  obtain ⟨s1, h1⟩ := k3 j s hs
  exact l3 j s1 h1
 ·obtain ⟨c1, h1⟩ := F.gk cur h
  exact F'.gk c1 h1
theorem Fr.of_below (hb : Below w.heap.size w w') (hB : B ≤ w.heap.size) (hg : (∃ cur, CellsAt w g 72 cur) ∨ w.heap.size ≤ g) : Fr B g w w' :=
 ⟨hb.mono hB, hg, fun b cs t fz h _ _ => (hb.block b (lt_of_block h)).trans h, fun b cs fz h => ⟨cs, (hb.block b (lt_of_block h)).trans h, rfl, fun _ s hs => ⟨s, hs⟩⟩, fun cur h => ⟨cur, h.below hb h.lt⟩⟩
theorem Fr.node (hc : CellsAt w g 72 cur) (hB : B ≤ g) (j : Nat) (u : Value) : Fr B g w (w.setCell ⟨g, j, none⟩ u) := by
 refine ⟨(Below.refl _ _).setCell hB _, .inl ⟨cur, hc⟩, fun b cs t fz h h1 _ => (Below.heap_setCell _ _ _ _ h1).trans h, fun b cs fz h => ⟨cs, ?_, rfl, fun _ s hs => ⟨s, hs⟩⟩, fun c hc' => ⟨_, hc'.set j u⟩⟩
 refine (Below.heap_setCell _ _ _ _ ?_).trans h
 rintro rfl
 have := h.symm.trans hc
 injection this with this
 injection this with _ e
 revert e
 decide
theorem Fr.str {b : Nat} {cs : Array Value} (hc : CellsAt w b 9 cs) (hB : B ≤ b) (hg : (∃ cur, CellsAt w g 72 cur) ∨ w.heap.size ≤ g) (j : Nat) (s : ByteArray) : Fr B g w (w.setCell ⟨b, j, none⟩ (.string s)) := by
 refine ⟨(Below.refl _ _).setCell hB _, hg, fun k ck t fz h _ h2 => (Below.heap_setCell _ _ _ _ ?_).trans h, fun k ck fz h => ?_, fun c hc' => ⟨c, hc'.other ?_ _⟩⟩
 ·rintro rfl
  have := h.symm.trans hc
  injection this with this
  injection this with _ e
  exact h2 e
 ·by_cases e : k = b
  ·subst e
   have e2 := h.symm.trans hc
   injection e2 with e2
   injection e2 with e3 _ e4
   subst e3 e4
   refine ⟨_, hc.set j (.string s), by simp, fun i s' hs => ?_⟩
   by_cases e : j = i
   ·subst e
    exact ⟨s, by rw [Array.getElem?_setIfInBounds_self, if_pos (Array.getElem?_eq_some_iff.1 hs).1]⟩
   ·exact ⟨s', by rw [Array.getElem?_setIfInBounds_ne e]; exact hs⟩
  ·exact ⟨ck, (Below.heap_setCell _ _ _ _ e).trans h, rfl, fun _ s hs => ⟨s, hs⟩⟩
 ·rintro rfl
  have := CellsAt.lt hc'
  have e2 := hc'.symm.trans hc
  injection e2 with e2
  injection e2 with _ e
  revert e
  decide
theorem Fr.cells (F : Fr B g w w') {b : Nat} {t : TypeId} {cs : Array Value} (h : CellsAt w b t cs) (h1 : b ≠ g) (h2 : t ≠ 9) : CellsAt w' b t cs := F.kept b cs t (0, 0) h h1 h2
end
theorem Fr.fresh {w w' : World} {B g b j : Nat} {u : Value} (F : Fr B g w w') (hb : w.heap.size ≤ b) (hB : B ≤ w.heap.size) : Fr B g w (w'.setCell ⟨b, j, none⟩ u) := by
 refine ⟨F.below.setCell (by show B ≤ b; omega) _, F.gn, fun k cs t fz h h1 h2 => (Below.heap_setCell _ _ _ _ (by have := lt_of_block h; simp; omega)).trans (F.kept k cs t fz h h1 h2), fun k cs fz h => ?_, fun cur h => ?_⟩
 ·obtain ⟨c1, k1, k2⟩ := F.strs k cs fz h
  exact ⟨c1, (Below.heap_setCell _ _ _ _ (by have := lt_of_block h; simp; omega)).trans k1, k2⟩
 ·obtain ⟨c1, h1⟩ := F.gk cur h
  exact ⟨c1, CellsAt.other h1 (by have := CellsAt.lt h; omega) _⟩
theorem Fr.alloc {w w' : World} {B g : Nat} (F : Fr B g w w') (hB : B ≤ w'.heap.size) (o : Obj) : Fr B g w (w'.alloc o) :=
 ⟨F.below.alloc hB o, F.gn, fun k cs t fz h h1 h2 => (Below.heap_alloc _ _ _ (lt_of_block (F.kept k cs t fz h h1 h2))).trans (F.kept k cs t fz h h1 h2), fun k cs fz h => by
  obtain ⟨c1, k1, k2⟩ := F.strs k cs fz h
  exact ⟨c1, (Below.heap_alloc _ _ _ (lt_of_block k1)).trans k1, k2⟩, fun cur h => by
  obtain ⟨c1, h1⟩ := F.gk cur h
  exact ⟨c1, h1.alloc o⟩⟩
theorem Fr.drew {w w' : World} {B g : Nat} (F : Fr B g w w') : Fr B g w w'.drew := ⟨⟨F.below.os, F.below.tape, F.below.output, F.below.size, F.below.block⟩, F.gn, F.kept, F.strs, F.gk⟩
section
variable {w w' : World} {B g id : Nat} {v : Value} {cur : Array Value}
theorem RowIn.form {l : List Value} (h : RowIn w B id v l) : ∃ A c, v = .slice A l.length c := by
 rcases h with ⟨rfl, rfl⟩ | ⟨x, cap, cr, rfl, _⟩
 ·exact ⟨_, _, rfl⟩
 ·exact ⟨_, _, rfl⟩
theorem RowIn.sform {α : Type} {f : α → Value} {l : List α} (h : RowIn w B id v (l.map f)) : ∃ A c, v = .slice A l.length c := by
 obtain ⟨A, c, e⟩ := RowIn.form h
 exact ⟨A, c, by rw [e, List.length_map]⟩
theorem RowIn.ne {l : List Value} (h : RowIn w B id v l) {t : Nat} {cs : Array Value} (hc : CellsAt w g t cs) (hid : id ≠ t) : ∀ x, Go.Rf.blk v = some x → x ≠ g := by
 rintro x hx rfl
 rcases h with ⟨rfl, _⟩ | ⟨y, cap, cr, rfl, _, hh, _⟩
 ·cases hx
 ·obtain rfl : y = x := by simpa [Go.Rf.blk] using hx
  have := hh.symm.trans hc
  injection this with this
  injection this with _ e
  exact hid e
theorem RowIn.ne' {l : List Value} (h : RowIn w B id v l) (hid : id ≠ 72) (hg : (∃ cur, CellsAt w g 72 cur) ∨ w.heap.size ≤ g) : ∀ x, Go.Rf.blk v = some x → x ≠ g := by
 rcases hg with ⟨cur, hc⟩ | hg
 ·exact RowIn.ne h hc hid
 ·intro x hx e
  have := (h.blk hx).2
  omega
theorem RowIn.int {l : List Value} (h : RowIn w B 3 v l) (F : Fr B g w w') : RowIn w' B 3 v l := by
 have hn := RowIn.ne' h (by decide) F.gn
 rcases h with h | ⟨x, cap, cr, rfl, hb, hh, r⟩
 ·exact .inl h
 ·exact .inr ⟨x, cap, cr, rfl, hb, F.kept x cr 3 (0, 0) hh (hn x rfl) (by decide), r⟩
def strOf : Value → ByteArray
 | .string s => s
 | _ => ByteArray.empty
theorem RowIn.weak {l : List ByteArray} (h : RowIn w B 9 v (strs l)) (F : Fr B g w w') : ∃ l' : List ByteArray, l'.length = l.length ∧ RowIn w' B 9 v (strs l') := by
 rcases h with ⟨rfl, h0⟩ | ⟨x, cap, cr, rfl, hb, hh, h1, h2, h3, h4⟩
 ·exact ⟨l, rfl, .inl ⟨rfl, h0⟩⟩
 ·obtain ⟨cs', k1, k2, k3⟩ := F.strs x cr (0, 0) hh
  have hlen : (strs l).length = l.length := List.length_map _
  rw [hlen] at h1 h4 ⊢
  have hsz : cs'.toList.length = cs'.size := Array.length_toList
  have hl : ((cs'.toList.take l.length).map strOf).length = l.length := by
   rw [List.length_map, List.length_take, hsz]
   omega
  have hs : strs ((cs'.toList.take l.length).map strOf) = cs'.toList.take l.length := by
   unfold Go.Rf.strs
   rw [List.map_map]
   conv => rhs; rw [← List.map_id (cs'.toList.take l.length)]
   apply List.map_congr_left
   intro u hu
   obtain ⟨j, hj, rfl⟩ := List.mem_iff_getElem.1 hu
   have hj' : j < l.length := by rw [List.length_take, hsz] at hj; omega
   have e1 : cr[j]? = some (.string l[j]) := by
    have : (cr.toList.take l.length)[j]? = some (.string l[j]) := by rw [h4]; simp [Go.Rf.strs, hj']
    rw [List.getElem?_take_of_lt hj'] at this
    simpa using this
   obtain ⟨s', hs'⟩ := k3 j _ e1
   have : (cs'.toList.take l.length)[j]? = some (.string s') := by rw [List.getElem?_take_of_lt hj']; simpa using hs'
   rw [List.getElem?_eq_getElem hj] at this
   obtain e := Option.some.inj this
   rw [e]
   rfl
  refine ⟨_, hl, .inr ⟨x, cap, cs', ?_, hb, k1, ?_, h2, by omega, ?_⟩⟩
  ·rw [hs, List.length_take, hsz, Nat.min_eq_left (by omega)]
  ·rw [hs, List.length_take, hsz]; omega
  ·rw [hs, List.length_take, hsz, Nat.min_eq_left (by omega)]
theorem RowIn.rep' {e : Go.Rf.T} {l : List e.D} {f : e.D → Value} (h : RowIn w B id v (l.map f)) (hf : ∀ x, Go.Rf.rep w (fun b => b < w.heap.size) e x [f x]) : Go.Rf.rep w (fun b => b < w.heap.size) (.sl e) l [v] := h.rep hf (fun g hg => (h.blk hg).2)
theorem RowIn.srep {l : List ByteArray} (h : RowIn w B id v (strs l)) : rep w (fun b => b < w.heap.size) (.sl .str) l [v] := RowIn.rep' h (fun _ => rfl)
theorem RowIn.irep {l : List Int} (h : RowIn w B id v (ints l)) : rep w (fun b => b < w.heap.size) (.sl (.int .i64)) l [v] := RowIn.rep' h (fun _ => rfl)
end
def NdC (w : World) (B : Nat) (cur : Array Value) (o : Nat) (n : Nd) : Prop :=
 ∃ uK uV uI, cur[o]? = some (.bool n.1) ∧ cur[o + 1]? = some uK ∧ cur[o + 2]? = some uV ∧ cur[o + 3]? = some uI ∧ RowIn w B 9 uK (strs n.2.1) ∧ RowIn w B 9 uV (strs n.2.2.1) ∧ RowIn w B 3 uI (ints n.2.2.2.1)
def TI (w : World) (B g : Nat) (N : List Nd) : Prop := ∃ cur, CellsAt w g 72 cur ∧ N.length * 4 ≤ cur.size ∧ B ≤ g ∧ ∀ i n, N[i]? = some n → NdC w B cur (i * 4) n
def TS (w : World) (B g : Nat) (S : List Sk) : Prop := ∃ N, TI w B g N ∧ N.map sk = S
theorem choose_list {α β : Type} {P : Nat → α → β → Prop} : ∀ (l : List α) (o : Nat), (∀ i x, l[i]? = some x → ∃ y, P (o + i) x y) → ∃ m : List β, m.length = l.length ∧ ∀ i x y, l[i]? = some x → m[i]? = some y → P (o + i) x y
 | [], _, _ => ⟨[], rfl, fun i x y h => by simp at h⟩
 | x :: l, o, h => by
  obtain ⟨y, hy⟩ := h 0 x rfl
  obtain ⟨m, h1, h2⟩ := choose_list l (o + 1) (fun i x hx => by
   obtain ⟨z, hz⟩ := h (i + 1) x (by simpa using hx)
   exact ⟨z, by rw [show o + 1 + i = o + (i + 1) by omega]; exact hz⟩)
  refine ⟨y :: m, by simp [h1], fun i a b ha hb => ?_⟩
  cases i with
  | zero => simp at ha hb; subst ha hb; exact hy
  | succ i => rw [show o + (i + 1) = o + 1 + i by omega]; exact h2 i a b (by simpa using ha) (by simpa using hb)
section
variable {w w' : World} {B g g' : Nat} {N : List Nd} {S : List Sk}
theorem TI.cur (h : TI w B g N) : ∃ cur, CellsAt w g 72 cur := by
 obtain ⟨cur, h1, _⟩ := h
 exact ⟨cur, h1⟩
theorem TI.base (h : TI w B g N) : B ≤ g := by
 obtain ⟨cur, _, _, h, _⟩ := h
 exact h
theorem TI.below (h : TI w B g N) (hb : Below w.heap.size w w') : TI w' B g N := by
 obtain ⟨cur, h1, h2, h3, h4⟩ := h
 refine ⟨cur, h1.below hb h1.lt, h2, h3, fun i n hn => ?_⟩
 obtain ⟨uK, uV, uI, e0, e1, e2, e3, rK, rV, rI⟩ := h4 i n hn
 exact ⟨uK, uV, uI, e0, e1, e2, e3, rK.below hb, rV.below hb, rI.below hb⟩
theorem TI.weak (h : TI w B g N) (F : Fr B g' w w') (hg : ∀ cur, CellsAt w g 72 cur → CellsAt w' g 72 cur) : TS w' B g (N.map sk) := by
 obtain ⟨cur, h1, h2, h3, h4⟩ := h
 obtain ⟨N', e1, e2⟩ := choose_list (P := fun i (n n' : Nd) => sk n' = sk n ∧ NdC w' B cur (i * 4) n') N 0 (fun i n hn => by
  obtain ⟨uK, uV, uI, e0, e1, e2, e3, rK, rV, rI⟩ := h4 i n hn
  obtain ⟨K, kl, k⟩ := RowIn.weak rK F
  obtain ⟨V, vl, v⟩ := RowIn.weak rV F
  refine ⟨(n.1, K, V, n.2.2.2.1, ()), ?_, uK, uV, uI, by simpa using e0, by simpa using e1, by simpa using e2, by simpa using e3, k, v, RowIn.int rI F⟩
  unfold sk
  simp only [kl, vl])
 have hN' : ∀ i n', N'[i]? = some n' → ∃ n, N[i]? = some n := fun i n' hn => by
  have := (List.getElem?_eq_some_iff.1 hn).1
  exact ⟨_, List.getElem?_eq_getElem (by omega)⟩
 refine ⟨N', ⟨cur, hg cur h1, by omega, h3, fun i n' hn => ?_⟩, ?_⟩
 ·obtain ⟨n, hn'⟩ := hN' i n' hn
  have := (e2 i n n' hn' hn).2
  rwa [Nat.zero_add] at this
 ·apply List.ext_getElem?
  intro i
  rw [List.getElem?_map, List.getElem?_map]
  cases hi : N'[i]? with
  | none =>
   have : N[i]? = none := List.getElem?_eq_none (by have := List.getElem?_eq_none_iff.1 hi; omega)
   rw [this]
  | some n' =>
   obtain ⟨n, hn'⟩ := hN' i n' hi
   rw [hn']
   exact congrArg some (e2 i n n' hn' hi).1
theorem TI.other (h : TI w B g N) (F : Fr B g' w w') (hg : g ≠ g') : TS w' B g (N.map sk) := h.weak F (fun cur hc => F.cells hc hg (by decide))
theorem TS.other (h : TS w B g S) (F : Fr B g' w w') (hg : g ≠ g') : TS w' B g S := by
 obtain ⟨N, h1, rfl⟩ := h
 exact h1.other F hg
theorem TS.below (h : TS w B g S) (hb : Below w.heap.size w w') : TS w' B g S := by
 obtain ⟨N, h1, rfl⟩ := h
 exact ⟨N, h1.below hb, rfl⟩
theorem TI.box (h : TI w B g N) {b t : Nat} {cs : Array Value} (hc : CellsAt w b t cs) (h1 : t ≠ 72) (h2 : t ≠ 9) (h3 : t ≠ 3) (j : Nat) (u : Value) : TI (w.setCell ⟨b, j, none⟩ u) B g N := by
 obtain ⟨cur, k1, k2, k3, k4⟩ := h
 have key : ∀ {t' : Nat} {b' : Nat} {cs' : Array Value}, CellsAt w b' t' cs' → t ≠ t' → b' ≠ b := by
  rintro t' b' cs' hc' hne rfl
  have := hc.symm.trans hc'
  injection this with this
  injection this with _ e
  exact hne e
 refine ⟨cur, k1.other (key k1 h1) _, k2, k3, fun i n hn => ?_⟩
 obtain ⟨uK, uV, uI, e0, e1, e2, e3, rK, rV, rI⟩ := k4 i n hn
 exact ⟨uK, uV, uI, e0, e1, e2, e3, rK.keep fun x hx => Below.heap_setCell _ _ _ _ (RowIn.ne rK hc h2.symm x hx), rV.keep fun x hx => Below.heap_setCell _ _ _ _ (RowIn.ne rV hc h2.symm x hx), rI.keep fun x hx => Below.heap_setCell _ _ _ _ (RowIn.ne rI hc h3.symm x hx)⟩
theorem TS.box (h : TS w B g S) {b t : Nat} {cs : Array Value} (hc : CellsAt w b t cs) (h1 : t ≠ 72) (h2 : t ≠ 9) (h3 : t ≠ 3) (j : Nat) (u : Value) : TS (w.setCell ⟨b, j, none⟩ u) B g S := by
 obtain ⟨N, k1, k2⟩ := h
 exact ⟨N, k1.box hc h1 h2 h3 j u, k2⟩
abbrev set2 (w : World) (r : Nat) (a b : Value) : World := (w.setCell ⟨r, 0, none⟩ a).setCell ⟨r, 1, none⟩ b
theorem CellsAt.set2 {w : World} {r : Nat} {x y : Value} (h : CellsAt w r 30 #[x, y]) (a b : Value) : CellsAt (set2 w r a b) r 30 #[a, b] := (h.set 0 a).set 1 b
theorem TI.set2 (h : TI w B g N) {r : Nat} {x y : Value} (hc : CellsAt w r 30 #[x, y]) (a b : Value) : TI (set2 w r a b) B g N := (h.box hc (by decide) (by decide) (by decide) 0 a).box (hc.set 0 a) (by decide) (by decide) (by decide) 1 b
theorem TS.set2 (h : TS w B g S) {r : Nat} {x y : Value} (hc : CellsAt w r 30 #[x, y]) (a b : Value) : TS (set2 w r a b) B g S := by
 obtain ⟨N, k1, k2⟩ := h
 exact ⟨N, k1.set2 hc a b, k2⟩
theorem Fr.set2 {w0 w : World} (F : Fr B g w0 w) {r : Nat} (hb : w0.heap.size ≤ r) (hB : B ≤ w0.heap.size) (a b : Value) : Fr B g w0 (set2 w r a b) := (F.fresh hb hB).fresh hb hB
theorem TI.ts (h : TI w B g N) : TS w B g (N.map sk) := ⟨N, h, rfl⟩
theorem TI.str (h : TI w B g N) {b : Nat} {cs : Array Value} (hc : CellsAt w b 9 cs) (hB : B ≤ b) (j : Nat) (s : ByteArray) : TS (w.setCell ⟨b, j, none⟩ (.string s)) B g (N.map sk) := by
 obtain ⟨cur, hcur⟩ := h.cur
 refine h.weak (Fr.str (g := g) hc hB (.inl ⟨cur, hcur⟩) j s) (fun c hc' => hc'.other ?_ _)
 rintro rfl
 have e2 := hc'.symm.trans hc
 injection e2 with e2
 injection e2 with _ e
 revert e
 decide
theorem set_get (c : Array Value) (j k : Nat) (u : Value) : (c.setIfInBounds j u)[k]? = if j = k then (if k < c.size then some u else none) else c[k]? := by
 rw [Array.getElem?_setIfInBounds]
 split
 ·rename_i e; subst e; split <;> simp_all
 ·rfl
abbrev set4 (w : World) (g o : Nat) (a b c d : Value) : World := (((w.setCell ⟨g, o, none⟩ a).setCell ⟨g, o + 1, none⟩ b).setCell ⟨g, o + 2, none⟩ c).setCell ⟨g, o + 3, none⟩ d
theorem set4_heap {g o x : Nat} (a b c d : Value) (hx : x ≠ g) : (set4 w g o a b c d).heap[x]? = w.heap[x]? := by
 unfold set4
 rw [Below.heap_setCell _ _ _ _ hx, Below.heap_setCell _ _ _ _ hx, Below.heap_setCell _ _ _ _ hx, Below.heap_setCell _ _ _ _ hx]
theorem Fr.node4 {cur : Array Value} (hc : CellsAt w g 72 cur) (hB : B ≤ g) (o : Nat) (a b c d : Value) : Fr B g w (set4 w g o a b c d) :=
 (((Fr.node hc hB o a).trans (Fr.node (hc.set o a) hB (o + 1) b)).trans (Fr.node ((hc.set o a).set (o + 1) b) hB (o + 2) c)).trans (Fr.node (((hc.set o a).set (o + 1) b).set (o + 2) c) hB (o + 3) d)
theorem TI.set (h : TI w B g N) {i : Nat} (hi : i < N.length) {uK uV uI : Value} {n : Nd} (rK : RowIn w B 9 uK (strs n.2.1)) (rV : RowIn w B 9 uV (strs n.2.2.1)) (rI : RowIn w B 3 uI (ints n.2.2.2.1)) :
  TI (set4 w g (i * 4) (.bool n.1) uK uV uI) B g (N.set i n) := by
 obtain ⟨cur, h1, h2, h3, h4⟩ := h
 have hset := (((h1.set (i * 4) (.bool n.1)).set (i * 4 + 1) uK).set (i * 4 + 2) uV).set (i * 4 + 3) uI
 have keepR : ∀ {id : Nat} {v : Value} {l : List Value}, RowIn w B id v l → id ≠ 72 → RowIn (set4 w g (i * 4) (.bool n.1) uK uV uI) B id v l := fun r hid => r.keep fun x hx => set4_heap _ _ _ _ (RowIn.ne r h1 hid x hx)
 refine ⟨_, hset, by simp only [List.length_set, Array.size_setIfInBounds]; exact h2, h3, fun j m hm => ?_⟩
 by_cases e : i = j
 ·subst e
  rw [List.getElem?_set_self hi] at hm
  obtain rfl := Option.some.inj hm
  refine ⟨uK, uV, uI, ?_, ?_, ?_, ?_, keepR rK (by decide), keepR rV (by decide), keepR rI (by decide)⟩
  ·simp only [set_get, Array.size_setIfInBounds]
   rw [if_neg (by omega), if_neg (by omega), if_neg (by omega), if_pos trivial, if_pos (by omega)]
  ·simp only [set_get, Array.size_setIfInBounds]
   rw [if_neg (by omega), if_neg (by omega), if_pos trivial, if_pos (by omega)]
  ·simp only [set_get, Array.size_setIfInBounds]
   rw [if_neg (by omega), if_pos trivial, if_pos (by omega)]
  ·simp only [set_get, Array.size_setIfInBounds]
   rw [if_pos trivial, if_pos (by omega)]
 ·rw [List.getElem?_set_ne e] at hm
  obtain ⟨vK, vV, vI, e0, e1, e2, e3, sK, sV, sI⟩ := h4 j m hm
  have key : ∀ k, k < 4 → ((((cur.setIfInBounds (i * 4) (.bool n.1)).setIfInBounds (i * 4 + 1) uK).setIfInBounds (i * 4 + 2) uV).setIfInBounds (i * 4 + 3) uI)[j * 4 + k]? = cur[j * 4 + k]? := fun k hk => by
   simp only [set_get]
   rw [if_neg (by omega), if_neg (by omega), if_neg (by omega), if_neg (by omega)]
  exact ⟨vK, vV, vI, (key 0 (by omega)).trans e0, (key 1 (by omega)).trans e1, (key 2 (by omega)).trans e2, (key 3 (by omega)).trans e3, keepR sK (by decide), keepR sV (by decide), keepR sI (by decide)⟩
theorem TI.node (h : TI w B g N) {i : Nat} {n : Nd} (hn : N[i]? = some n) : ∃ uK uV uI, w.cell? ⟨g, i * 4, none⟩ = some (.bool n.1) ∧ w.cell? ⟨g, i * 4 + 1, none⟩ = some uK ∧ w.cell? ⟨g, i * 4 + 2, none⟩ = some uV ∧ w.cell? ⟨g, i * 4 + 3, none⟩ = some uI ∧
  RowIn w B 9 uK (strs n.2.1) ∧ RowIn w B 9 uV (strs n.2.2.1) ∧ RowIn w B 3 uI (ints n.2.2.2.1) := by
 obtain ⟨cur, h1, h2, h3, h4⟩ := h
 obtain ⟨uK, uV, uI, e0, e1, e2, e3, r⟩ := h4 i n hn
 exact ⟨uK, uV, uI, by rw [h1.cell]; exact e0, by rw [h1.cell]; exact e1, by rw [h1.cell]; exact e2, by rw [h1.cell]; exact e3, r⟩
theorem TI.frozen (h : TI w B g N) (j : Nat) : w.frozen? ⟨g, j, none⟩ = false := by
 obtain ⟨cur, h1⟩ := h.cur
 exact h1.frozen j
theorem TI.rep (h : TI w B g N) {c : Nat} (hc : N.length ≤ c) : rep w (fun b => b < w.heap.size) (.sl nodeT) N [.slice (some ⟨g, 0, none⟩) N.length c] := by
 obtain ⟨cur, h1, h2, h3, h4⟩ := h
 have hsz : cur.toList.length = cur.size := Array.length_toList
 have hlen : (cur.toList.take (N.length * 4)).length = N.length * 4 := by rw [List.length_take, hsz]; omega
 have hget : ∀ j, j < N.length * 4 → (cur.toList.take (N.length * 4))[j]? = cur[j]? := fun j hj => by rw [List.getElem?_take_of_lt hj]; simp
 refine ⟨some ⟨g, 0, none⟩, c, cur.toList.take (N.length * 4), rfl, hc, Go.Rf.reps_four N _ hlen fun i n hn => ?_, fun j u hj => ⟨⟨g, 0, none⟩, rfl, rfl, h1.lt, ?_⟩⟩
 ·obtain ⟨uK, uV, uI, e0, e1, e2, e3, rK, rV, rI⟩ := h4 i n hn
  have hi := (List.getElem?_eq_some_iff.1 hn).1
  refine ⟨.bool n.1, uK, uV, uI, (hget _ (by omega)).trans e0, (hget _ (by omega)).trans e1, (hget _ (by omega)).trans e2, (hget _ (by omega)).trans e3, [.bool n.1], [uK, uV, uI], rfl, rfl, [uK], [uV, uI], rfl, RowIn.srep rK, [uV], [uI], rfl, RowIn.srep rV, [uI], [], rfl, RowIn.irep rI, rfl⟩
 ·have hj' : j < N.length * 4 := by have := (List.getElem?_eq_some_iff.1 hj).1; omega
  rw [Go.Rf.add_mk, h1.cell, ← hget j hj']
  exact hj
end
end Go.Proofs.Ytcolgghllacloaa.Tm
end

section
namespace Go.Proofs.Ytcolgghllacloaa.R
open Go.Rf
noncomputable def tabs : Tabs where
 ty := [(3, ⟨false, [.int .i64], [], 8⟩),
  (4, ⟨false, [.bool], [], 1⟩),
  (5, ⟨false, [.int .u8], [], 1⟩),
  (9, ⟨false, [.str], [], 16⟩),
  (26, ⟨false, [.sl (.pair .str (.pair .str .unit))], [], 24⟩),
  (28, ⟨false, [.sl (.pair .bool (.pair (.sl .str) (.pair (.sl .str) (.pair (.sl (.int .i64)) .unit))))], [], 24⟩),
  (30, ⟨true, [.int .i64, .sl (.pair .bool (.pair (.sl .str) (.pair (.sl .str) (.pair (.sl (.int .i64)) .unit))))], [(0, 1, false), (1, 1, false)], 32⟩),
  (37, ⟨false, [.sl (.int .u8)], [], 24⟩),
  (45, ⟨true, [.str, .str], [(0, 1, false), (1, 1, false)], 32⟩),
  (62, ⟨false, [.sl .str], [], 24⟩),
  (65, ⟨false, [.sl (.int .i64)], [], 24⟩),
  (69, ⟨false, [.sl .bool], [], 24⟩),
  (72, ⟨true, [.bool, .sl .str, .sl .str, .sl (.int .i64)], [(0, 1, false), (1, 1, false), (2, 1, false), (3, 1, false)], 80⟩),
  (82, ⟨true, [.sl (.int .u8), .int .i64], [(0, 1, false), (1, 1, false)], 32⟩),
  (85, ⟨true, [.int .i64, .sl (.pair .bool (.pair (.sl .str) (.pair (.sl .str) (.pair (.sl (.int .i64)) .unit)))), .sl .bool, .int .i64], [(0, 2, true), (2, 1, false), (3, 1, false)], 64⟩),
  (102, ⟨false, [.int .u64], [], 8⟩)]
 el := [(26, 45), (28, 72), (37, 5), (62, 9), (65, 3), (69, 4)]
 ifcs := []
 known := [7, 16, 17, 18, 19, 21, 22, 24, 25, 33, 34, 35, 36, 37, 39, 40, 41, 49, 50, 51, 52, 53, 54, 55, 58, 59, 67, 68, 69, 70, 71, 72, 73, 77, 78, 79, 80, 81, 82, 83, 84, 85, 86, 87, 88, 90, 93, 94, 95, 96, 97]
 spec := [(7, ⟨[.agg [.v (.int .i64), .v (.sl (.pair .bool (.pair (.sl .str) (.pair (.sl .str) (.pair (.sl (.int .i64)) .unit)))))], .c (.v .str), .c (.v .str)], [.c (.v (.sl (.pair .str (.pair .str .unit))))]⟩),
  (16, ⟨[.agg [.v (.int .i64), .v (.sl (.pair .bool (.pair (.sl .str) (.pair (.sl .str) (.pair (.sl (.int .i64)) .unit)))))]], [.c (.v (.int .i64))]⟩),
  (17, ⟨[.agg [.v (.int .i64), .v (.sl (.pair .bool (.pair (.sl .str) (.pair (.sl .str) (.pair (.sl (.int .i64)) .unit)))))]], [.c (.v (.int .i64))]⟩),
  (18, ⟨[.agg [.v (.int .i64), .v (.sl (.pair .bool (.pair (.sl .str) (.pair (.sl .str) (.pair (.sl (.int .i64)) .unit)))))]], [.c (.v .bool)]⟩),
  (19, ⟨[.agg [.v (.int .i64), .v (.sl (.pair .bool (.pair (.sl .str) (.pair (.sl .str) (.pair (.sl (.int .i64)) .unit)))))]], [.c (.v .bool)]⟩),
  (21, ⟨[.c (.v (.sl (.pair .str (.pair .str .unit)))), .c (.v (.sl (.pair .str (.pair .str .unit))))], [.c (.v .bool)]⟩),
  (22, ⟨[.agg [.v (.int .i64), .v (.sl (.pair .bool (.pair (.sl .str) (.pair (.sl .str) (.pair (.sl (.int .i64)) .unit)))))], .c (.v .str)], [.c (.v .str), .c (.v .bool)]⟩),
  (24, ⟨[.agg [.v (.int .i64), .v (.sl (.pair .bool (.pair (.sl .str) (.pair (.sl .str) (.pair (.sl (.int .i64)) .unit)))))]], [.c (.v (.int .i64))]⟩),
  (25, ⟨[.agg [.v (.int .i64), .v (.sl (.pair .bool (.pair (.sl .str) (.pair (.sl .str) (.pair (.sl (.int .i64)) .unit)))))], .c (.v (.int .i64)), .c (.v .str), .c (.v .str), .c (.o (.pair .str (.pair .str .unit)) 45 false)], [.c (.o (.pair .str (.pair .str .unit)) 45 true)]⟩),
  (33, ⟨[.c (.v (.sl (.int .u8)))], [.box [.v (.sl (.int .u8)), .v (.int .i64)]]⟩),
  (34, ⟨[.agg [.v (.int .i64), .v (.sl (.pair .bool (.pair (.sl .str) (.pair (.sl .str) (.pair (.sl (.int .i64)) .unit)))))]], [.c (.v (.int .i64))]⟩),
  (35, ⟨[.box [.v (.sl (.int .u8)), .v (.int .i64)], .c (.o .str 9 false)], [.c (.v .str)]⟩),
  (36, ⟨[.box [.v (.sl (.int .u8)), .v (.int .i64)]], [.c (.v .str)]⟩),
  (37, ⟨[.agg [.v (.int .i64), .v (.sl (.pair .bool (.pair (.sl .str) (.pair (.sl .str) (.pair (.sl (.int .i64)) .unit)))))], .c (.v .str)], [.c (.v .str), .c (.v .bool)]⟩),
  (39, ⟨[.c (.v (.int .i64)), .c (.v (.int .i64)), .c (.v (.int .i64))], [.c (.v .bool)]⟩),
  (40, ⟨[.agg [.v (.int .i64), .v (.sl (.pair .bool (.pair (.sl .str) (.pair (.sl .str) (.pair (.sl (.int .i64)) .unit)))))], .c (.v (.int .i64)), .c (.v .str), .c (.v .str), .c (.v .bool), .c (.o .bool 4 true)], [.c (.v (.int .i64))]⟩),
  (41, ⟨[.agg [.v .bool, .v (.sl .str), .v (.sl .str), .v (.sl (.int .i64))]], [.c (.v .bool)]⟩),
  (49, ⟨[.box [.v (.sl (.int .u8)), .v (.int .i64)], .c (.v (.int .i64))], [.c (.v (.int .i64))]⟩),
  (50, ⟨[.box [.v (.sl (.int .u8)), .v (.int .i64)], .c (.o (.int .i64) 3 false)], [.c (.v (.int .i64))]⟩),
  (51, ⟨[.c (.v (.int .i64)), .c (.v (.int .i64)), .c (.v (.int .i64))], [.c (.v .bool)]⟩),
  (52, ⟨[.box [.v (.int .i64), .v (.sl (.pair .bool (.pair (.sl .str) (.pair (.sl .str) (.pair (.sl (.int .i64)) .unit))))), .o .bool 4 true, .v (.int .i64)], .c (.v (.int .i64)), .c (.v (.int .i64)), .c (.v .str), .c (.v .str)], [.c (.v .bool)]⟩),
  (53, ⟨[.agg [.v .bool, .v (.sl .str), .v (.sl .str), .v (.sl (.int .i64))]], [.c (.v .bool)]⟩),
  (54, ⟨[.agg [.v (.int .i64), .v (.sl (.pair .bool (.pair (.sl .str) (.pair (.sl .str) (.pair (.sl (.int .i64)) .unit)))))], .c (.v .str)], [.c (.v (.sl (.int .i64)))]⟩),
  (55, ⟨[.c (.v (.sl .str)), .c (.v .str)], [.c (.v (.int .i64)), .c (.v .bool)]⟩),
  (58, ⟨[.agg [.v .bool, .v (.sl .str), .v (.sl .str), .v (.sl (.int .i64))]], [.c (.v .bool)]⟩),
  (59, ⟨[.c (.v (.sl .str)), .c (.v .str), .c (.v .str)], [.c (.v .bool)]⟩),
  (67, ⟨[.c (.v (.int .i64)), .c (.v (.int .i64))], [.c (.v .str)]⟩),
  (68, ⟨[.agg [.v .bool, .v (.sl .str), .v (.sl .str), .v (.sl (.int .i64))]], [.c (.v .bool)]⟩),
  (69, ⟨[.agg [.v .bool, .v (.sl .str), .v (.sl .str), .v (.sl (.int .i64))], .c (.v .str)], [.c (.v (.int .i64))]⟩),
  (70, ⟨[.c (.v .str), .c (.v .str)], [.c (.v .bool)]⟩),
  (71, ⟨[.c (.v .str)], [.c (.v .bool)]⟩),
  (72, ⟨[.c (.v (.sl .str))], [.c (.v .bool)]⟩),
  (73, ⟨[.agg [.v (.int .i64), .v (.sl (.pair .bool (.pair (.sl .str) (.pair (.sl .str) (.pair (.sl (.int .i64)) .unit)))))], .c (.v .str)], [.c (.v .str), .c (.v .bool)]⟩),
  (77, ⟨[.agg [.v (.int .i64), .v (.sl (.pair .bool (.pair (.sl .str) (.pair (.sl .str) (.pair (.sl (.int .i64)) .unit)))))]], [.c (.v (.int .i64))]⟩),
  (78, ⟨[.c (.v (.sl .str)), .c (.v (.sl (.int .i64)))], [.agg [.v .bool, .o .str 9 true, .o .str 9 true, .o (.int .i64) 3 true]]⟩),
  (79, ⟨[.c (.v (.int .i64))], [.c (.v .str)]⟩),
  (81, ⟨[.c (.v .str)], [.c (.v .bool)]⟩),
  (83, ⟨[.c (.v (.int .i64))], [.c (.v .bool)]⟩),
  (84, ⟨[.c (.v .str)], [.c (.v .bool)]⟩),
  (85, ⟨[.agg [.v (.int .i64), .v (.sl (.pair .bool (.pair (.sl .str) (.pair (.sl .str) (.pair (.sl (.int .i64)) .unit)))))], .c (.v .str)], [.agg [.v .bool, .v (.sl .str), .v (.sl .str), .v (.sl (.int .i64))]]⟩),
  (86, ⟨[.c (.v (.sl .str)), .c (.v .str)], [.c (.v (.int .i64))]⟩),
  (87, ⟨[.agg [.v .bool, .v (.sl .str), .v (.sl .str), .v (.sl (.int .i64))]], [.agg [.v .bool, .o .str 9 true, .o .str 9 true, .o (.int .i64) 3 true]]⟩),
  (88, ⟨[.c (.v (.sl .str)), .c (.v (.sl .str))], [.agg [.v .bool, .o .str 9 true, .o .str 9 true, .o (.int .i64) 3 true]]⟩),
  (90, ⟨[.c (.v (.sl .str)), .c (.v .str)], [.c (.v (.int .i64))]⟩),
  (93, ⟨[.c (.v (.sl .str)), .c (.v (.int .i64)), .c (.v .str)], [.c (.o .str 9 true)]⟩),
  (94, ⟨[.c (.v (.sl (.int .i64))), .c (.v (.int .i64)), .c (.v (.int .i64))], [.c (.o (.int .i64) 3 true)]⟩),
  (97, ⟨[.agg [.v (.int .i64), .v (.sl (.pair .bool (.pair (.sl .str) (.pair (.sl .str) (.pair (.sl (.int .i64)) .unit)))))], .c (.v (.int .i64)), .c (.v (.int .i64))], [.c (.v (.int .i64))]⟩),
  (82080, ⟨[.c (.v (.sl .str)), .clo 81 []], [.c (.v .bool)]⟩),
  (82095, ⟨[.c (.v (.sl .str)), .clo 81 []], [.c (.v (.int .i64))]⟩),
  (84082, ⟨[.c (.v (.sl (.int .i64))), .clo 83 []], [.c (.v .bool)]⟩),
  (84096, ⟨[.c (.v (.sl (.int .i64))), .clo 83 []], [.c (.v (.int .i64))]⟩)]
 cut := [(21, [(4, [(0, .c (.v (.sl (.pair .str (.pair .str .unit))))), (1, .c (.v (.sl (.pair .str (.pair .str .unit))))), (5, .c (.v (.int .i64)))])]),
  (24, [(6, [(1, .box [.v (.int .i64), .v (.sl (.pair .bool (.pair (.sl .str) (.pair (.sl .str) (.pair (.sl (.int .i64)) .unit)))))]), (3, .c (.o .bool 4 true)), (4, .c (.v (.int .i64))), (5, .c (.v (.int .i64)))])]),
  (25, [(3, [(2, .c (.v .str)), (3, .c (.v .str)), (4, .c (.o (.pair .str (.pair .str .unit)) 45 true)), (5, .box [.v (.int .i64), .v (.sl (.pair .bool (.pair (.sl .str) (.pair (.sl .str) (.pair (.sl (.int .i64)) .unit)))))]), (11, .box [.v .bool, .v (.sl .str), .v (.sl .str), .v (.sl (.int .i64))]), (12, .c (.v (.int .i64)))]), (7, [(2, .c (.v .str)), (3, .c (.v .str)), (4, .c (.o (.pair .str (.pair .str .unit)) 45 true)), (11, .box [.v .bool, .v (.sl .str), .v (.sl .str), .v (.sl (.int .i64))]), (13, .c (.v (.int .i64)))]), (8, [(2, .c (.v .str)), (3, .c (.v .str)), (4, .c (.o (.pair .str (.pair .str .unit)) 45 true)), (11, .box [.v .bool, .v (.sl .str), .v (.sl .str), .v (.sl (.int .i64))]), (13, .c (.v (.int .i64)))])]),
  (33, [(3, [(0, .c (.v (.sl (.int .u8))))])]),
  (34, [(7, [(3, .box [.v (.int .i64), .v (.sl (.pair .bool (.pair (.sl .str) (.pair (.sl .str) (.pair (.sl (.int .i64)) .unit))))), .o .bool 4 true, .v (.int .i64)]), (26, .c (.v (.sl (.pair .bool (.pair (.sl .str) (.pair (.sl .str) (.pair (.sl (.int .i64)) .unit))))))), (27, .c (.v (.int .i64))), (28, .c (.v (.int .i64)))])]),
  (40, [(11, [(2, .c (.v .str)), (3, .c (.v .str)), (5, .c (.o .bool 4 true)), (6, .box [.v (.int .i64), .v (.sl (.pair .bool (.pair (.sl .str) (.pair (.sl .str) (.pair (.sl (.int .i64)) .unit)))))]), (13, .box [.v .bool, .v (.sl .str), .v (.sl .str), .v (.sl (.int .i64))]), (14, .c (.v (.int .i64))), (15, .c (.v (.int .i64)))]), (17, [(2, .c (.v .str)), (3, .c (.v .str)), (5, .c (.o .bool 4 true)), (6, .box [.v (.int .i64), .v (.sl (.pair .bool (.pair (.sl .str) (.pair (.sl .str) (.pair (.sl (.int .i64)) .unit)))))]), (13, .box [.v .bool, .v (.sl .str), .v (.sl .str), .v (.sl (.int .i64))]), (14, .c (.v (.int .i64))), (15, .c (.v (.int .i64))), (16, .c (.v .str)), (17, .c (.v .str))]), (19, [(2, .c (.v .str)), (3, .c (.v .str)), (5, .c (.o .bool 4 true)), (6, .box [.v (.int .i64), .v (.sl (.pair .bool (.pair (.sl .str) (.pair (.sl .str) (.pair (.sl (.int .i64)) .unit)))))]), (13, .box [.v .bool, .v (.sl .str), .v (.sl .str), .v (.sl (.int .i64))]), (14, .c (.v (.int .i64))), (15, .c (.v (.int .i64))), (16, .c (.v .str)), (17, .c (.v .str))])]),
  (52, [(6, [(0, .box [.v (.int .i64), .v (.sl (.pair .bool (.pair (.sl .str) (.pair (.sl .str) (.pair (.sl (.int .i64)) .unit))))), .o .bool 4 true, .v (.int .i64)]), (2, .c (.v (.int .i64))), (3, .c (.v .str)), (4, .c (.v .str)), (11, .box [.v .bool, .v (.sl .str), .v (.sl .str), .v (.sl (.int .i64))]), (60, .c (.v (.sl .str))), (61, .c (.v (.int .i64))), (62, .c (.v (.int .i64)))]), (14, [(0, .box [.v (.int .i64), .v (.sl (.pair .bool (.pair (.sl .str) (.pair (.sl .str) (.pair (.sl (.int .i64)) .unit))))), .o .bool 4 true, .v (.int .i64)]), (2, .c (.v (.int .i64)))]), (16, [(0, .box [.v (.int .i64), .v (.sl (.pair .bool (.pair (.sl .str) (.pair (.sl .str) (.pair (.sl (.int .i64)) .unit))))), .o .bool 4 true, .v (.int .i64)]), (2, .c (.v (.int .i64))), (3, .c (.v .str)), (4, .c (.v .str)), (11, .box [.v .bool, .v (.sl .str), .v (.sl .str), .v (.sl (.int .i64))]), (97, .c (.v (.sl (.int .i64)))), (98, .c (.v (.int .i64))), (99, .c (.v (.int .i64)))]), (21, [(0, .box [.v (.int .i64), .v (.sl (.pair .bool (.pair (.sl .str) (.pair (.sl .str) (.pair (.sl (.int .i64)) .unit))))), .o .bool 4 true, .v (.int .i64)]), (2, .c (.v (.int .i64))), (3, .c (.v .str)), (4, .c (.v .str)), (11, .box [.v .bool, .v (.sl .str), .v (.sl .str), .v (.sl (.int .i64))]), (14, .c (.v (.int .i64))), (15, .c (.v (.int .i64))), (16, .c (.v .str)), (17, .c (.v .str)), (97, .c (.v (.sl (.int .i64)))), (98, .c (.v (.int .i64))), (99, .c (.v (.int .i64)))]), (23, [(0, .box [.v (.int .i64), .v (.sl (.pair .bool (.pair (.sl .str) (.pair (.sl .str) (.pair (.sl (.int .i64)) .unit))))), .o .bool 4 true, .v (.int .i64)]), (2, .c (.v (.int .i64))), (3, .c (.v .str)), (4, .c (.v .str)), (11, .box [.v .bool, .v (.sl .str), .v (.sl .str), .v (.sl (.int .i64))]), (15, .c (.v (.int .i64))), (16, .c (.v .str)), (17, .c (.v .str)), (97, .c (.v (.sl (.int .i64)))), (98, .c (.v (.int .i64))), (99, .c (.v (.int .i64)))])]),
  (54, [(2, [(1, .c (.v .str)), (2, .box [.v (.int .i64), .v (.sl (.pair .bool (.pair (.sl .str) (.pair (.sl .str) (.pair (.sl (.int .i64)) .unit)))))]), (5, .c (.o (.int .i64) 3 true))])]),
  (55, [(3, [(0, .c (.v (.sl .str))), (1, .c (.v .str)), (6, .c (.v (.int .i64))), (7, .c (.v (.int .i64))), (8, .c (.v (.int .i64)))])]),
  (58, [(5, [(1, .box [.v .bool, .v (.sl .str), .v (.sl .str), .v (.sl (.int .i64))]), (3, .c (.v (.int .i64)))]), (11, [(1, .box [.v .bool, .v (.sl .str), .v (.sl .str), .v (.sl (.int .i64))]), (4, .c (.v (.int .i64)))])]),
  (59, [(2, [(0, .c (.v (.sl .str))), (1, .c (.v .str)), (2, .c (.v .str)), (7, .c (.v (.int .i64)))])]),
  (67, [(2, [(1, .c (.v (.int .i64))), (5, .c (.v .str))])]),
  (68, [(4, [(1, .box [.v .bool, .v (.sl .str), .v (.sl .str), .v (.sl (.int .i64))]), (10, .c (.v (.sl .str))), (11, .c (.v (.int .i64))), (12, .c (.v (.int .i64)))])]),
  (69, [(4, [(5, .c (.v (.int .i64)))])]),
  (72, [(2, [(0, .c (.v (.sl .str))), (3, .c (.v (.int .i64)))])]),
  (77, [(2, [(1, .box [.v (.int .i64), .v (.sl (.pair .bool (.pair (.sl .str) (.pair (.sl .str) (.pair (.sl (.int .i64)) .unit)))))]), (3, .c (.v (.int .i64)))])]),
  (85, [(2, [(1, .c (.v .str)), (2, .box [.v (.int .i64), .v (.sl (.pair .bool (.pair (.sl .str) (.pair (.sl .str) (.pair (.sl (.int .i64)) .unit)))))]), (4, .box [.v .bool, .v (.sl .str), .v (.sl .str), .v (.sl (.int .i64))]), (5, .c (.v (.int .i64)))])]),
  (86, [(2, [(0, .c (.v (.sl .str))), (1, .c (.v .str)), (5, .c (.v (.int .i64)))])]),
  (90, [(2, [(0, .c (.v (.sl .str))), (1, .c (.v .str)), (5, .c (.v (.int .i64)))])]),
  (82095, [(2, [(0, .c (.v (.sl .str))), (1, .clo 81 []), (7, .c (.v (.int .i64))), (8, .c (.v (.int .i64)))])]),
  (84096, [(2, [(0, .c (.v (.sl (.int .i64)))), (1, .clo 83 []), (7, .c (.v (.int .i64))), (8, .c (.v (.int .i64)))])])]
 eqs := [(45, [.str, .str])]
theorem tabs_ok : tabs.ok Try.prog = true := by kernel_rfl
noncomputable def cx : Go.Rf.Cx := tabs.cx Try.prog (fun _ => none) (fun _ => none) (fun _ => none)
theorem good : Go.Rf.Good cx := Go.Rf.Tabs.good tabs_ok
theorem told (k f : Nat) (inp : (cx.spec f).In) (out : (cx.spec f).Out) (h : callF cx k f inp = some out) : Go.Rf.Contract cx f inp out := (Go.Rf.run_ok good (fun f g inp out h => by cases h) k).1 f inp out h
end Go.Proofs.Ytcolgghllacloaa.R
end

section
namespace Go.Proofs.Ytcolgghllacloaa.R
open Go.Rf
noncomputable def F16 (k : Nat) (a0_0 : Int) (a0_1 : List (Bool × (List ByteArray) × (List ByteArray) × (List Int) × Unit)) : Option ((Int × Unit) × ((Unit × Unit × Unit) × Unit)) := callF cx k 16 ((a0_0, a0_1, ()), ())
noncomputable def F17 (k : Nat) (a0_0 : Int) (a0_1 : List (Bool × (List ByteArray) × (List ByteArray) × (List Int) × Unit)) : Option ((Int × Unit) × ((Unit × Unit × Unit) × Unit)) := callF cx k 17 ((a0_0, a0_1, ()), ())
noncomputable def F18 (k : Nat) (a0_0 : Int) (a0_1 : List (Bool × (List ByteArray) × (List ByteArray) × (List Int) × Unit)) : Option ((Bool × Unit) × ((Unit × Unit × Unit) × Unit)) := callF cx k 18 ((a0_0, a0_1, ()), ())
noncomputable def F19 (k : Nat) (a0_0 : Int) (a0_1 : List (Bool × (List ByteArray) × (List ByteArray) × (List Int) × Unit)) : Option ((Bool × Unit) × ((Unit × Unit × Unit) × Unit)) := callF cx k 19 ((a0_0, a0_1, ()), ())
noncomputable def F24 (k : Nat) (a0_0 : Int) (a0_1 : List (Bool × (List ByteArray) × (List ByteArray) × (List Int) × Unit)) : Option ((Int × Unit) × ((Unit × Unit × Unit) × Unit)) := callF cx k 24 ((a0_0, a0_1, ()), ())
noncomputable def F24c6 (k : Nat) (x1_0 : Int) (x1_1 : List (Bool × (List ByteArray) × (List ByteArray) × (List Int) × Unit)) (x3 : List Bool) (x4 : Int) (x5 : Int) : Option ((Int × Unit) × ((Unit × Unit × Unit) × Unit)) := cutF cx 24 6 Try.f24 k ((x1_0, x1_1, ()), x3, x4, x5, ())
noncomputable def F33 (k : Nat) (a0 : List Int) : Option ((((List Int) × Int × Unit) × Unit) × (Unit × Unit)) := callF cx k 33 (a0, ())
noncomputable def F33c3 (k : Nat) (x0 : List Int) : Option ((((List Int) × Int × Unit) × Unit) × (Unit × Unit)) := cutF cx 33 3 Try.f33 k (x0, ())
noncomputable def F34 (k : Nat) (a0_0 : Int) (a0_1 : List (Bool × (List ByteArray) × (List ByteArray) × (List Int) × Unit)) : Option ((Int × Unit) × ((Unit × Unit × Unit) × Unit)) := callF cx k 34 ((a0_0, a0_1, ()), ())
noncomputable def F34c7 (k : Nat) (x3_0 : Int) (x3_1 : List (Bool × (List ByteArray) × (List ByteArray) × (List Int) × Unit)) (x3_2 : List Bool) (x3_3 : Int) (x26 : List (Bool × (List ByteArray) × (List ByteArray) × (List Int) × Unit)) (x27 : Int) (x28 : Int) : Option ((Int × Unit) × ((Unit × Unit × Unit) × Unit)) := cutF cx 34 7 Try.f34 k ((x3_0, x3_1, x3_2, x3_3, ()), x26, x27, x28, ())
noncomputable def F35 (k : Nat) (a0_0 : List Int) (a0_1 : Int) (a1 : List ByteArray) : Option ((ByteArray × Unit) × (((List Int) × Int × Unit) × Unit × Unit)) := callF cx k 35 ((a0_0, a0_1, ()), a1, ())
noncomputable def F36 (k : Nat) (a0_0 : List Int) (a0_1 : Int) : Option ((ByteArray × Unit) × (((List Int) × Int × Unit) × Unit)) := callF cx k 36 ((a0_0, a0_1, ()), ())
noncomputable def F39 (k : Nat) (a0 : Int) (a1 : Int) (a2 : Int) : Option ((Bool × Unit) × (Unit × Unit × Unit × Unit)) := callF cx k 39 (a0, a1, a2, ())
noncomputable def F40 (k : Nat) (a0_0 : Int) (a0_1 : List (Bool × (List ByteArray) × (List ByteArray) × (List Int) × Unit)) (a1 : Int) (a2 : ByteArray) (a3 : ByteArray) (a4 : Bool) (a5 : List Bool) : Option ((Int × Unit) × ((Unit × Unit × Unit) × Unit × Unit × Unit × Unit × (List Bool) × Unit)) := callF cx k 40 ((a0_0, a0_1, ()), a1, a2, a3, a4, a5, ())
noncomputable def F40c11 (k : Nat) (x2 : ByteArray) (x3 : ByteArray) (x5 : List Bool) (x6_0 : Int) (x6_1 : List (Bool × (List ByteArray) × (List ByteArray) × (List Int) × Unit)) (x13_0 : Bool) (x13_1 : List ByteArray) (x13_2 : List ByteArray) (x13_3 : List Int) (x14 : Int) (x15 : Int) : Option ((Int × Unit) × ((Unit × Unit × Unit) × Unit × Unit × Unit × Unit × (List Bool) × Unit)) := cutF cx 40 11 Try.f40 k (x2, x3, x5, (x6_0, x6_1, ()), (x13_0, x13_1, x13_2, x13_3, ()), x14, x15, ())
noncomputable def F40c17 (k : Nat) (x2 : ByteArray) (x3 : ByteArray) (x5 : List Bool) (x6_0 : Int) (x6_1 : List (Bool × (List ByteArray) × (List ByteArray) × (List Int) × Unit)) (x13_0 : Bool) (x13_1 : List ByteArray) (x13_2 : List ByteArray) (x13_3 : List Int) (x14 : Int) (x15 : Int) (x16 : ByteArray) (x17 : ByteArray) : Option ((Int × Unit) × ((Unit × Unit × Unit) × Unit × Unit × Unit × Unit × (List Bool) × Unit)) := cutF cx 40 17 Try.f40 k (x2, x3, x5, (x6_0, x6_1, ()), (x13_0, x13_1, x13_2, x13_3, ()), x14, x15, x16, x17, ())
noncomputable def F40c19 (k : Nat) (x2 : ByteArray) (x3 : ByteArray) (x5 : List Bool) (x6_0 : Int) (x6_1 : List (Bool × (List ByteArray) × (List ByteArray) × (List Int) × Unit)) (x13_0 : Bool) (x13_1 : List ByteArray) (x13_2 : List ByteArray) (x13_3 : List Int) (x14 : Int) (x15 : Int) (x16 : ByteArray) (x17 : ByteArray) : Option ((Int × Unit) × ((Unit × Unit × Unit) × Unit × Unit × Unit × Unit × (List Bool) × Unit)) := cutF cx 40 19 Try.f40 k (x2, x3, x5, (x6_0, x6_1, ()), (x13_0, x13_1, x13_2, x13_3, ()), x14, x15, x16, x17, ())
noncomputable def F41 (k : Nat) (a0_0 : Bool) (a0_1 : List ByteArray) (a0_2 : List ByteArray) (a0_3 : List Int) : Option ((Bool × Unit) × ((Unit × Unit × Unit × Unit × Unit) × Unit)) := callF cx k 41 ((a0_0, a0_1, a0_2, a0_3, ()), ())
noncomputable def F49 (k : Nat) (a0_0 : List Int) (a0_1 : Int) (a1 : Int) : Option ((Int × Unit) × (((List Int) × Int × Unit) × Unit × Unit)) := callF cx k 49 ((a0_0, a0_1, ()), a1, ())
noncomputable def F50 (k : Nat) (a0_0 : List Int) (a0_1 : Int) (a1 : List Int) : Option ((Int × Unit) × (((List Int) × Int × Unit) × Unit × Unit)) := callF cx k 50 ((a0_0, a0_1, ()), a1, ())
noncomputable def F51 (k : Nat) (a0 : Int) (a1 : Int) (a2 : Int) : Option ((Bool × Unit) × (Unit × Unit × Unit × Unit)) := callF cx k 51 (a0, a1, a2, ())
noncomputable def F52 (k : Nat) (a0_0 : Int) (a0_1 : List (Bool × (List ByteArray) × (List ByteArray) × (List Int) × Unit)) (a0_2 : List Bool) (a0_3 : Int) (a1 : Int) (a2 : Int) (a3 : ByteArray) (a4 : ByteArray) : Option ((Bool × Unit) × ((Int × (List (Bool × (List ByteArray) × (List ByteArray) × (List Int) × Unit)) × (List Bool) × Int × Unit) × Unit × Unit × Unit × Unit × Unit)) := callF cx k 52 ((a0_0, a0_1, a0_2, a0_3, ()), a1, a2, a3, a4, ())
noncomputable def F52c6 (k : Nat) (x0_0 : Int) (x0_1 : List (Bool × (List ByteArray) × (List ByteArray) × (List Int) × Unit)) (x0_2 : List Bool) (x0_3 : Int) (x2 : Int) (x3 : ByteArray) (x4 : ByteArray) (x11_0 : Bool) (x11_1 : List ByteArray) (x11_2 : List ByteArray) (x11_3 : List Int) (x60 : List ByteArray) (x61 : Int) (x62 : Int) : Option ((Bool × Unit) × ((Int × (List (Bool × (List ByteArray) × (List ByteArray) × (List Int) × Unit)) × (List Bool) × Int × Unit) × Unit × Unit × Unit × Unit × Unit)) := cutF cx 52 6 Try.f52 k ((x0_0, x0_1, x0_2, x0_3, ()), x2, x3, x4, (x11_0, x11_1, x11_2, x11_3, ()), x60, x61, x62, ())
noncomputable def F52c14 (k : Nat) (x0_0 : Int) (x0_1 : List (Bool × (List ByteArray) × (List ByteArray) × (List Int) × Unit)) (x0_2 : List Bool) (x0_3 : Int) (x2 : Int) : Option ((Bool × Unit) × ((Int × (List (Bool × (List ByteArray) × (List ByteArray) × (List Int) × Unit)) × (List Bool) × Int × Unit) × Unit × Unit × Unit × Unit × Unit)) := cutF cx 52 14 Try.f52 k ((x0_0, x0_1, x0_2, x0_3, ()), x2, ())
noncomputable def F52c16 (k : Nat) (x0_0 : Int) (x0_1 : List (Bool × (List ByteArray) × (List ByteArray) × (List Int) × Unit)) (x0_2 : List Bool) (x0_3 : Int) (x2 : Int) (x3 : ByteArray) (x4 : ByteArray) (x11_0 : Bool) (x11_1 : List ByteArray) (x11_2 : List ByteArray) (x11_3 : List Int) (x97 : List Int) (x98 : Int) (x99 : Int) : Option ((Bool × Unit) × ((Int × (List (Bool × (List ByteArray) × (List ByteArray) × (List Int) × Unit)) × (List Bool) × Int × Unit) × Unit × Unit × Unit × Unit × Unit)) := cutF cx 52 16 Try.f52 k ((x0_0, x0_1, x0_2, x0_3, ()), x2, x3, x4, (x11_0, x11_1, x11_2, x11_3, ()), x97, x98, x99, ())
noncomputable def F52c21 (k : Nat) (x0_0 : Int) (x0_1 : List (Bool × (List ByteArray) × (List ByteArray) × (List Int) × Unit)) (x0_2 : List Bool) (x0_3 : Int) (x2 : Int) (x3 : ByteArray) (x4 : ByteArray) (x11_0 : Bool) (x11_1 : List ByteArray) (x11_2 : List ByteArray) (x11_3 : List Int) (x14 : Int) (x15 : Int) (x16 : ByteArray) (x17 : ByteArray) (x97 : List Int) (x98 : Int) (x99 : Int) : Option ((Bool × Unit) × ((Int × (List (Bool × (List ByteArray) × (List ByteArray) × (List Int) × Unit)) × (List Bool) × Int × Unit) × Unit × Unit × Unit × Unit × Unit)) := cutF cx 52 21 Try.f52 k ((x0_0, x0_1, x0_2, x0_3, ()), x2, x3, x4, (x11_0, x11_1, x11_2, x11_3, ()), x14, x15, x16, x17, x97, x98, x99, ())
noncomputable def F52c23 (k : Nat) (x0_0 : Int) (x0_1 : List (Bool × (List ByteArray) × (List ByteArray) × (List Int) × Unit)) (x0_2 : List Bool) (x0_3 : Int) (x2 : Int) (x3 : ByteArray) (x4 : ByteArray) (x11_0 : Bool) (x11_1 : List ByteArray) (x11_2 : List ByteArray) (x11_3 : List Int) (x15 : Int) (x16 : ByteArray) (x17 : ByteArray) (x97 : List Int) (x98 : Int) (x99 : Int) : Option ((Bool × Unit) × ((Int × (List (Bool × (List ByteArray) × (List ByteArray) × (List Int) × Unit)) × (List Bool) × Int × Unit) × Unit × Unit × Unit × Unit × Unit)) := cutF cx 52 23 Try.f52 k ((x0_0, x0_1, x0_2, x0_3, ()), x2, x3, x4, (x11_0, x11_1, x11_2, x11_3, ()), x15, x16, x17, x97, x98, x99, ())
noncomputable def F53 (k : Nat) (a0_0 : Bool) (a0_1 : List ByteArray) (a0_2 : List ByteArray) (a0_3 : List Int) : Option ((Bool × Unit) × ((Unit × Unit × Unit × Unit × Unit) × Unit)) := callF cx k 53 ((a0_0, a0_1, a0_2, a0_3, ()), ())
noncomputable def F58 (k : Nat) (a0_0 : Bool) (a0_1 : List ByteArray) (a0_2 : List ByteArray) (a0_3 : List Int) : Option ((Bool × Unit) × ((Unit × Unit × Unit × Unit × Unit) × Unit)) := callF cx k 58 ((a0_0, a0_1, a0_2, a0_3, ()), ())
noncomputable def F58c5 (k : Nat) (x1_0 : Bool) (x1_1 : List ByteArray) (x1_2 : List ByteArray) (x1_3 : List Int) (x3 : Int) : Option ((Bool × Unit) × ((Unit × Unit × Unit × Unit × Unit) × Unit)) := cutF cx 58 5 Try.f58 k ((x1_0, x1_1, x1_2, x1_3, ()), x3, ())
noncomputable def F58c11 (k : Nat) (x1_0 : Bool) (x1_1 : List ByteArray) (x1_2 : List ByteArray) (x1_3 : List Int) (x4 : Int) : Option ((Bool × Unit) × ((Unit × Unit × Unit × Unit × Unit) × Unit)) := cutF cx 58 11 Try.f58 k ((x1_0, x1_1, x1_2, x1_3, ()), x4, ())
noncomputable def F59 (k : Nat) (a0 : List ByteArray) (a1 : ByteArray) (a2 : ByteArray) : Option ((Bool × Unit) × (Unit × Unit × Unit × Unit)) := callF cx k 59 (a0, a1, a2, ())
noncomputable def F59c2 (k : Nat) (x0 : List ByteArray) (x1 : ByteArray) (x2 : ByteArray) (x7 : Int) : Option ((Bool × Unit) × (Unit × Unit × Unit × Unit)) := cutF cx 59 2 Try.f59 k (x0, x1, x2, x7, ())
noncomputable def F67 (k : Nat) (a0 : Int) (a1 : Int) : Option ((ByteArray × Unit) × (Unit × Unit × Unit)) := callF cx k 67 (a0, a1, ())
noncomputable def F67c2 (k : Nat) (x1 : Int) (x5 : ByteArray) : Option ((ByteArray × Unit) × (Unit × Unit × Unit)) := cutF cx 67 2 Try.f67 k (x1, x5, ())
noncomputable def F68 (k : Nat) (a0_0 : Bool) (a0_1 : List ByteArray) (a0_2 : List ByteArray) (a0_3 : List Int) : Option ((Bool × Unit) × ((Unit × Unit × Unit × Unit × Unit) × Unit)) := callF cx k 68 ((a0_0, a0_1, a0_2, a0_3, ()), ())
noncomputable def F68c4 (k : Nat) (x1_0 : Bool) (x1_1 : List ByteArray) (x1_2 : List ByteArray) (x1_3 : List Int) (x10 : List ByteArray) (x11 : Int) (x12 : Int) : Option ((Bool × Unit) × ((Unit × Unit × Unit × Unit × Unit) × Unit)) := cutF cx 68 4 Try.f68 k ((x1_0, x1_1, x1_2, x1_3, ()), x10, x11, x12, ())
noncomputable def F72 (k : Nat) (a0 : List ByteArray) : Option ((Bool × Unit) × (Unit × Unit)) := callF cx k 72 (a0, ())
noncomputable def F72c2 (k : Nat) (x0 : List ByteArray) (x3 : Int) : Option ((Bool × Unit) × (Unit × Unit)) := cutF cx 72 2 Try.f72 k (x0, x3, ())
noncomputable def F73 (k : Nat) (a0_0 : Int) (a0_1 : List (Bool × (List ByteArray) × (List ByteArray) × (List Int) × Unit)) (a1 : ByteArray) : Option ((ByteArray × Bool × Unit) × ((Unit × Unit × Unit) × Unit × Unit)) := callF cx k 73 ((a0_0, a0_1, ()), a1, ())
noncomputable def F77 (k : Nat) (a0_0 : Int) (a0_1 : List (Bool × (List ByteArray) × (List ByteArray) × (List Int) × Unit)) : Option ((Int × Unit) × ((Unit × Unit × Unit) × Unit)) := callF cx k 77 ((a0_0, a0_1, ()), ())
noncomputable def F77c2 (k : Nat) (x1_0 : Int) (x1_1 : List (Bool × (List ByteArray) × (List ByteArray) × (List Int) × Unit)) (x3 : Int) : Option ((Int × Unit) × ((Unit × Unit × Unit) × Unit)) := cutF cx 77 2 Try.f77 k ((x1_0, x1_1, ()), x3, ())
noncomputable def F78 (k : Nat) (a0 : List ByteArray) (a1 : List Int) : Option (((Bool × (List ByteArray) × (List ByteArray) × (List Int) × Unit) × Unit) × (Unit × Unit × Unit)) := callF cx k 78 (a0, a1, ())
noncomputable def F79 (k : Nat) (a0 : Int) : Option ((ByteArray × Unit) × (Unit × Unit)) := callF cx k 79 (a0, ())
noncomputable def F81 (k : Nat) (a0 : ByteArray) : Option ((Bool × Unit) × (Unit × Unit)) := callF cx k 81 (a0, ())
noncomputable def F83 (k : Nat) (a0 : Int) : Option ((Bool × Unit) × (Unit × Unit)) := callF cx k 83 (a0, ())
noncomputable def F85 (k : Nat) (a0_0 : Int) (a0_1 : List (Bool × (List ByteArray) × (List ByteArray) × (List Int) × Unit)) (a1 : ByteArray) : Option (((Bool × (List ByteArray) × (List ByteArray) × (List Int) × Unit) × Unit) × ((Unit × Unit × Unit) × Unit × Unit)) := callF cx k 85 ((a0_0, a0_1, ()), a1, ())
noncomputable def F85c2 (k : Nat) (x1 : ByteArray) (x2_0 : Int) (x2_1 : List (Bool × (List ByteArray) × (List ByteArray) × (List Int) × Unit)) (x4_0 : Bool) (x4_1 : List ByteArray) (x4_2 : List ByteArray) (x4_3 : List Int) (x5 : Int) : Option (((Bool × (List ByteArray) × (List ByteArray) × (List Int) × Unit) × Unit) × ((Unit × Unit × Unit) × Unit × Unit)) := cutF cx 85 2 Try.f85 k (x1, (x2_0, x2_1, ()), (x4_0, x4_1, x4_2, x4_3, ()), x5, ())
noncomputable def F86 (k : Nat) (a0 : List ByteArray) (a1 : ByteArray) : Option ((Int × Unit) × (Unit × Unit × Unit)) := callF cx k 86 (a0, a1, ())
noncomputable def F86c2 (k : Nat) (x0 : List ByteArray) (x1 : ByteArray) (x5 : Int) : Option ((Int × Unit) × (Unit × Unit × Unit)) := cutF cx 86 2 Try.f86 k (x0, x1, x5, ())
noncomputable def F87 (k : Nat) (a0_0 : Bool) (a0_1 : List ByteArray) (a0_2 : List ByteArray) (a0_3 : List Int) : Option (((Bool × (List ByteArray) × (List ByteArray) × (List Int) × Unit) × Unit) × ((Unit × Unit × Unit × Unit × Unit) × Unit)) := callF cx k 87 ((a0_0, a0_1, a0_2, a0_3, ()), ())
noncomputable def F88 (k : Nat) (a0 : List ByteArray) (a1 : List ByteArray) : Option (((Bool × (List ByteArray) × (List ByteArray) × (List Int) × Unit) × Unit) × (Unit × Unit × Unit)) := callF cx k 88 (a0, a1, ())
noncomputable def F90 (k : Nat) (a0 : List ByteArray) (a1 : ByteArray) : Option ((Int × Unit) × (Unit × Unit × Unit)) := callF cx k 90 (a0, a1, ())
noncomputable def F90c2 (k : Nat) (x0 : List ByteArray) (x1 : ByteArray) (x5 : Int) : Option ((Int × Unit) × (Unit × Unit × Unit)) := cutF cx 90 2 Try.f90 k (x0, x1, x5, ())
noncomputable def F93 (k : Nat) (a0 : List ByteArray) (a1 : Int) (a2 : ByteArray) : Option (((List ByteArray) × Unit) × (Unit × Unit × Unit × Unit)) := callF cx k 93 (a0, a1, a2, ())
noncomputable def F94 (k : Nat) (a0 : List Int) (a1 : Int) (a2 : Int) : Option (((List Int) × Unit) × (Unit × Unit × Unit × Unit)) := callF cx k 94 (a0, a1, a2, ())
noncomputable def F97 (k : Nat) (a0_0 : Int) (a0_1 : List (Bool × (List ByteArray) × (List ByteArray) × (List Int) × Unit)) (a1 : Int) (a2 : Int) : Option ((Int × Unit) × ((Unit × Unit × Unit) × Unit × Unit × Unit)) := callF cx k 97 ((a0_0, a0_1, ()), a1, a2, ())
noncomputable def F82080 (k : Nat) (a0 : List ByteArray) : Option ((Bool × Unit) × (Unit × Unit × Unit)) := callF cx k 82080 (a0, (()), ())
noncomputable def F82095 (k : Nat) (a0 : List ByteArray) : Option ((Int × Unit) × (Unit × Unit × Unit)) := callF cx k 82095 (a0, (()), ())
noncomputable def F82095c2 (k : Nat) (x0 : List ByteArray) (x7 : Int) (x8 : Int) : Option ((Int × Unit) × (Unit × Unit × Unit)) := cutF cx 82095 2 Try.f95 k (x0, (()), x7, x8, ())
noncomputable def F84082 (k : Nat) (a0 : List Int) : Option ((Bool × Unit) × (Unit × Unit × Unit)) := callF cx k 84082 (a0, (()), ())
noncomputable def F84096 (k : Nat) (a0 : List Int) : Option ((Int × Unit) × (Unit × Unit × Unit)) := callF cx k 84096 (a0, (()), ())
noncomputable def F84096c2 (k : Nat) (x0 : List Int) (x7 : Int) (x8 : Int) : Option ((Int × Unit) × (Unit × Unit × Unit)) := cutF cx 84096 2 Try.f96 k (x0, (()), x7, x8, ())
theorem F16_eq (k : Nat) (a0_0 : Int) (a0_1 : List (Bool × (List ByteArray) × (List ByteArray) × (List Int) × Unit)) : F16 (k + 2) a0_0 a0_1 =
  (F34 k a0_0 a0_1).bind fun r1 => some ((r1.1.1, ()), (((), (), ()), ())) := by kernel_rfl
theorem F17_eq (k : Nat) (a0_0 : Int) (a0_1 : List (Bool × (List ByteArray) × (List ByteArray) × (List Int) × Unit)) : F17 (k + 2) a0_0 a0_1 =
  (F24 k a0_0 a0_1).bind fun r1 => if (decide (r1.1.1 < (0 : Int))) = true then some (((0 : Int), ()), (((), (), ()), ())) else some ((r1.1.1, ()), (((), (), ()), ())) := by kernel_rfl
theorem F18_eq (k : Nat) (a0_0 : Int) (a0_1 : List (Bool × (List ByteArray) × (List ByteArray) × (List Int) × Unit)) : F18 (k + 2) a0_0 a0_1 =
  (F34 k a0_0 a0_1).bind fun r1 => some ((decide (r1.1.1 > (0 : Int)), ()), (((), (), ()), ())) := by kernel_rfl
theorem F19_eq (k : Nat) (a0_0 : Int) (a0_1 : List (Bool × (List ByteArray) × (List ByteArray) × (List Int) × Unit)) : F19 (k + 2) a0_0 a0_1 =
  (F24 k a0_0 a0_1).bind fun r1 => some ((decide (r1.1.1 > (0 : Int)), ()), (((), (), ()), ())) := by kernel_rfl
theorem F24_eq (k : Nat) (a0_0 : Int) (a0_1 : List (Bool × (List ByteArray) × (List ByteArray) × (List Int) × Unit)) : F24 (k + 2) a0_0 a0_1 =
  if ((a0_1.length : Int) != (19 : Int)) = true then some (((-1 : Int), ()), (((), (), ()), ())) else (F39 k a0_0 (0 : Int) (18 : Int)).bind fun r1 => if (!r1.1.1) = true then some (((-1 : Int), ()), (((), (), ()), ())) else if (decide (0 ≤ (19 : Int)) && decide ((19 : Int) ≤ (19 : Int)) && decide ((19 : Int) ≤ (140737488355328 : Int))) = true then (F40 k a0_0 a0_1 a0_0 (⟨#[]⟩ : ByteArray) (⟨#[]⟩ : ByteArray) true (List.replicate 19 false)).bind fun r2 => F24c6 k a0_0 a0_1 r2.2.2.2.2.2.2.1 r2.1.1 (0 : Int) else none := by kernel_rfl
theorem F24c6_eq (k : Nat) (x1_0 : Int) (x1_1 : List (Bool × (List ByteArray) × (List ByteArray) × (List Int) × Unit)) (x3 : List Bool) (x4 : Int) (x5 : Int) : F24c6 (k + 1) x1_0 x1_1 x3 x4 x5 =
  if (decide (x5 < (x3.length : Int))) = true then if (decide (0 ≤ x5) && decide (x5 < (x3.length : Int))) = true then (x3[x5.toNat]?).bind fun y3 => if (!y3) = true then if (decide (0 ≤ x5)) = true then (x1_1[x5.toNat]?).bind fun y4 => (F41 k y4.1 y4.2.1 y4.2.2.1 y4.2.2.2.1).bind fun r5 => if (!r5.1.1) = true then some (((-1 : Int), ()), (((), (), ()), ())) else F24c6 k x1_0 x1_1 x3 x4 (IntKind.i64.wrap (x5 + (1 : Int))) else none else F24c6 k x1_0 x1_1 x3 x4 (IntKind.i64.wrap (x5 + (1 : Int))) else none else some ((x4, ()), (((), (), ()), ())) := by kernel_rfl
theorem F33_eq (k : Nat) (a0 : List Int) : F33 (k + 2) a0 =
  if (decide ((a0.length : Int) > (2000 : Int))) = true then if (decide (0 ≤ (2000 : Int)) && decide ((2000 : Int) ≤ (a0.length : Int))) = true then F33c3 k (slices a0 0 2000) else none else F33c3 k a0 := by kernel_rfl
theorem F33c3_eq (k : Nat) (x0 : List Int) : F33c3 (k + 1) x0 =
  some (((x0, (0 : Int), ()), ()), ((), ())) := by kernel_rfl
theorem F34_eq (k : Nat) (a0_0 : Int) (a0_1 : List (Bool × (List ByteArray) × (List ByteArray) × (List Int) × Unit)) : F34 (k + 2) a0_0 a0_1 =
  if ((a0_1.length : Int) != (19 : Int)) = true then some (((0 : Int), ()), (((), (), ()), ())) else (F51 k a0_0 (0 : Int) (18 : Int)).bind fun r1 => if (!r1.1.1) = true then some (((0 : Int), ()), (((), (), ()), ())) else if (decide (0 ≤ (19 : Int)) && decide ((19 : Int) ≤ (19 : Int)) && decide ((19 : Int) ≤ (140737488355328 : Int))) = true then (F52 k a0_0 a0_1 (List.replicate 19 false) (0 : Int) a0_0 (1 : Int) (⟨#[]⟩ : ByteArray) (⟨#[]⟩ : ByteArray)).bind fun r2 => if (!r2.1.1) = true then some (((0 : Int), ()), (((), (), ()), ())) else F34c7 k r2.2.1.1 r2.2.1.2.1 r2.2.1.2.2.1 r2.2.1.2.2.2.1 a0_1 (a0_1.length : Int) (0 : Int) else none := by kernel_rfl
theorem F34c7_eq (k : Nat) (x3_0 : Int) (x3_1 : List (Bool × (List ByteArray) × (List ByteArray) × (List Int) × Unit)) (x3_2 : List Bool) (x3_3 : Int) (x26 : List (Bool × (List ByteArray) × (List ByteArray) × (List Int) × Unit)) (x27 : Int) (x28 : Int) : F34c7 (k + 1) x3_0 x3_1 x3_2 x3_3 x26 x27 x28 =
  if (decide (x28 < x27)) = true then if (decide (0 ≤ x28)) = true then (x26[x28.toNat]?).bind fun y3 => if (decide (0 ≤ x28) && decide (x28 < (x3_2.length : Int))) = true then (x3_2[x28.toNat]?).bind fun y4 => if (!y4) = true then (F53 k y3.1 y3.2.1 y3.2.2.1 y3.2.2.2.1).bind fun r5 => if (!r5.1.1) = true then some (((0 : Int), ()), (((), (), ()), ())) else F34c7 k x3_0 x3_1 x3_2 x3_3 x26 x27 (IntKind.i64.wrap (x28 + (1 : Int))) else F34c7 k x3_0 x3_1 x3_2 x3_3 x26 x27 (IntKind.i64.wrap (x28 + (1 : Int))) else none else none else some ((x3_3, ()), (((), (), ()), ())) := by kernel_rfl
theorem F35_eq (k : Nat) (a0_0 : List Int) (a0_1 : Int) (a1 : List ByteArray) : F35 (k + 2) a0_0 a0_1 a1 =
  (F49 k a0_0 a0_1 (a1.length : Int)).bind fun r1 => if (decide (0 ≤ r1.1.1) && decide (r1.1.1 < (a1.length : Int))) = true then (a1[r1.1.1.toNat]?).bind fun y2 => some ((y2, ()), ((r1.2.1.1, r1.2.1.2.1, ()), (), ())) else none := by kernel_rfl
theorem F36_eq (k : Nat) (a0_0 : List Int) (a0_1 : Int) : F36 (k + 2) a0_0 a0_1 =
  (F35 k a0_0 a0_1 [(⟨#[97]⟩ : ByteArray), (⟨#[98]⟩ : ByteArray), (⟨#[99]⟩ : ByteArray), (⟨#[100]⟩ : ByteArray), (⟨#[101]⟩ : ByteArray), (⟨#[102]⟩ : ByteArray), (⟨#[103]⟩ : ByteArray), (⟨#[104]⟩ : ByteArray), (⟨#[107]⟩ : ByteArray), (⟨#[109]⟩ : ByteArray), (⟨#[112]⟩ : ByteArray), (⟨#[115]⟩ : ByteArray), (⟨#[119]⟩ : ByteArray), (⟨#[122]⟩ : ByteArray), (⟨#[97, 97]⟩ : ByteArray), (⟨#[97, 98]⟩ : ByteArray), (⟨#[98, 97]⟩ : ByteArray), (⟨#[0]⟩ : ByteArray), (⟨#[255]⟩ : ByteArray)]).bind fun r1 => (F35 k r1.2.1.1 r1.2.1.2.1 [(⟨#[]⟩ : ByteArray), (⟨#[]⟩ : ByteArray), (⟨#[49]⟩ : ByteArray), (⟨#[53]⟩ : ByteArray), (⟨#[57]⟩ : ByteArray)]).bind fun r2 => if (Nat.ble (r1.1.1.size + r2.1.1.size) 9223372036854775807) = true then some (((r1.1.1 ++ r2.1.1), ()), ((r2.2.1.1, r2.2.1.2.1, ()), ())) else none := by kernel_rfl
theorem F39_eq (k : Nat) (a0 : Int) (a1 : Int) (a2 : Int) : F39 (k + 2) a0 a1 a2 =
  if (decide (a0 ≥ a1)) = true then some ((decide (a0 ≤ a2), ()), ((), (), (), ())) else some ((false, ()), ((), (), (), ())) := by kernel_rfl
theorem F40_eq (k : Nat) (a0_0 : Int) (a0_1 : List (Bool × (List ByteArray) × (List ByteArray) × (List Int) × Unit)) (a1 : Int) (a2 : ByteArray) (a3 : ByteArray) (a4 : Bool) (a5 : List Bool) : F40 (k + 2) a0_0 a0_1 a1 a2 a3 a4 a5 =
  if (decide (0 ≤ a1) && decide (a1 < (a5.length : Int))) = true then (a5[a1.toNat]?).bind fun y1 => if y1 = true then some (((-1 : Int), ()), (((), (), ()), (), (), (), (), a5, ())) else if (decide (0 ≤ a1) && decide (a1 < (a5.length : Int))) = true then (a5[a1.toNat]?).bind fun y2 => if (decide (0 ≤ a1)) = true then (a0_1[a1.toNat]?).bind fun y3 => (F58 k y3.1 y3.2.1 y3.2.2.1 y3.2.2.2.1).bind fun r4 => if (!r4.1.1) = true then some (((-1 : Int), ()), (((), (), ()), (), (), (), (), a5.set a1.toNat true, ())) else (F59 k y3.2.1 a2 a3).bind fun r5 => if (!r5.1.1) = true then some (((-1 : Int), ()), (((), (), ()), (), (), (), (), a5.set a1.toNat true, ())) else if (!a4) = true then if (decide ((y3.2.1.length : Int) < (2 : Int))) = true then some (((-1 : Int), ()), (((), (), ()), (), (), (), (), a5.set a1.toNat true, ())) else if y3.1 = true then some (((1 : Int), ()), (((), (), ()), (), (), (), (), a5.set a1.toNat true, ())) else F40c11 k a2 a3 (a5.set a1.toNat true) a0_0 a0_1 y3.1 y3.2.1 y3.2.2.1 y3.2.2.2.1 (0 : Int) (0 : Int) else if y3.1 = true then some (((1 : Int), ()), (((), (), ()), (), (), (), (), a5.set a1.toNat true, ())) else F40c11 k a2 a3 (a5.set a1.toNat true) a0_0 a0_1 y3.1 y3.2.1 y3.2.2.1 y3.2.2.2.1 (0 : Int) (0 : Int) else none else none else none := by kernel_rfl
theorem F40c11_eq (k : Nat) (x2 : ByteArray) (x3 : ByteArray) (x5 : List Bool) (x6_0 : Int) (x6_1 : List (Bool × (List ByteArray) × (List ByteArray) × (List Int) × Unit)) (x13_0 : Bool) (x13_1 : List ByteArray) (x13_2 : List ByteArray) (x13_3 : List Int) (x14 : Int) (x15 : Int) : F40c11 (k + 1) x2 x3 x5 x6_0 x6_1 x13_0 x13_1 x13_2 x13_3 x14 x15 =
  if (decide (x15 < (x13_3.length : Int))) = true then if (decide (x15 > (0 : Int))) = true then if (decide (0 ≤ (IntKind.i64.wrap (x15 - (1 : Int))))) = true then (x13_1[(IntKind.i64.wrap (x15 - (1 : Int))).toNat]?).bind fun y6 => F40c17 k x2 x3 x5 x6_0 x6_1 x13_0 x13_1 x13_2 x13_3 x14 x15 y6 x3 else none else F40c17 k x2 x3 x5 x6_0 x6_1 x13_0 x13_1 x13_2 x13_3 x14 x15 x2 x3 else some (((IntKind.i64.wrap (x14 + (1 : Int))), ()), (((), (), ()), (), (), (), (), x5, ())) := by kernel_rfl
theorem F40c17_eq (k : Nat) (x2 : ByteArray) (x3 : ByteArray) (x5 : List Bool) (x6_0 : Int) (x6_1 : List (Bool × (List ByteArray) × (List ByteArray) × (List Int) × Unit)) (x13_0 : Bool) (x13_1 : List ByteArray) (x13_2 : List ByteArray) (x13_3 : List Int) (x14 : Int) (x15 : Int) (x16 : ByteArray) (x17 : ByteArray) : F40c17 (k + 1) x2 x3 x5 x6_0 x6_1 x13_0 x13_1 x13_2 x13_3 x14 x15 x16 x17 =
  if (decide (x15 < (x13_1.length : Int))) = true then if (decide (0 ≤ x15)) = true then (x13_1[x15.toNat]?).bind fun y7 => F40c19 k x2 x3 x5 x6_0 x6_1 x13_0 x13_1 x13_2 x13_3 x14 x15 x16 y7 else none else F40c19 k x2 x3 x5 x6_0 x6_1 x13_0 x13_1 x13_2 x13_3 x14 x15 x16 x17 := by kernel_rfl
theorem F40c19_eq (k : Nat) (x2 : ByteArray) (x3 : ByteArray) (x5 : List Bool) (x6_0 : Int) (x6_1 : List (Bool × (List ByteArray) × (List ByteArray) × (List Int) × Unit)) (x13_0 : Bool) (x13_1 : List ByteArray) (x13_2 : List ByteArray) (x13_3 : List Int) (x14 : Int) (x15 : Int) (x16 : ByteArray) (x17 : ByteArray) : F40c19 (k + 1) x2 x3 x5 x6_0 x6_1 x13_0 x13_1 x13_2 x13_3 x14 x15 x16 x17 =
  if (decide (0 ≤ x15)) = true then (x13_3[x15.toNat]?).bind fun y8 => (F40 k x6_0 x6_1 y8 x16 x17 false x5).bind fun r9 => if (decide (r9.1.1 < (0 : Int))) = true then some (((-1 : Int), ()), (((), (), ()), (), (), (), (), r9.2.2.2.2.2.2.1, ())) else if (decide (x14 > (0 : Int))) = true then if (r9.1.1 != x14) = true then some (((-1 : Int), ()), (((), (), ()), (), (), (), (), r9.2.2.2.2.2.2.1, ())) else F40c11 k x2 x3 r9.2.2.2.2.2.2.1 x6_0 x6_1 x13_0 x13_1 x13_2 x13_3 r9.1.1 (IntKind.i64.wrap (x15 + (1 : Int))) else F40c11 k x2 x3 r9.2.2.2.2.2.2.1 x6_0 x6_1 x13_0 x13_1 x13_2 x13_3 r9.1.1 (IntKind.i64.wrap (x15 + (1 : Int))) else none := by kernel_rfl
theorem F41_eq (k : Nat) (a0_0 : Bool) (a0_1 : List ByteArray) (a0_2 : List ByteArray) (a0_3 : List Int) : F41 (k + 2) a0_0 a0_1 a0_2 a0_3 =
  if (!a0_0) = true then if ((a0_1.length : Int) == (0 : Int)) = true then if ((a0_2.length : Int) == (0 : Int)) = true then some ((((a0_3.length : Int) == (0 : Int)), ()), (((), (), (), (), ()), ())) else some ((false, ()), (((), (), (), (), ()), ())) else some ((false, ()), (((), (), (), (), ()), ())) else some ((false, ()), (((), (), (), (), ()), ())) := by kernel_rfl
theorem F49_eq (k : Nat) (a0_0 : List Int) (a0_1 : Int) (a1 : Int) : F49 (k + 2) a0_0 a0_1 a1 =
  if (decide (a1 < (1 : Int))) = true then some (((0 : Int), ()), ((a0_0, (IntKind.i64.wrap (a0_1 + (1 : Int))), ()), (), ())) else if ((a0_0.length : Int) == (0 : Int)) = true then some (((0 : Int), ()), ((a0_0, (IntKind.i64.wrap (a0_1 + (1 : Int))), ()), (), ())) else if (decide ((IntKind.i64.wrap ((IntKind.i64.wrap (a0_1 + (1 : Int))) - (1 : Int))) < (a0_0.length : Int))) = true then if (decide (0 ≤ (IntKind.i64.wrap ((IntKind.i64.wrap (a0_1 + (1 : Int))) - (1 : Int))))) = true then (a0_0[(IntKind.i64.wrap ((IntKind.i64.wrap (a0_1 + (1 : Int))) - (1 : Int))).toNat]?).bind fun y1 => if (!(a1 == 0)) = true then some ((((IntKind.i64.wrap y1).tmod a1), ()), ((a0_0, (IntKind.i64.wrap (a0_1 + (1 : Int))), ()), (), ())) else none else none else if (!((a0_0.length : Int) == 0)) = true then if (decide (0 ≤ ((IntKind.i64.wrap ((IntKind.i64.wrap (a0_1 + (1 : Int))) - (1 : Int))).tmod (a0_0.length : Int)))) = true then (a0_0[((IntKind.i64.wrap ((IntKind.i64.wrap (a0_1 + (1 : Int))) - (1 : Int))).tmod (a0_0.length : Int)).toNat]?).bind fun y2 => if (!((a0_0.length : Int) == 0)) = true then if (decide (0 ≤ ((IntKind.i64.wrap ((IntKind.i64.wrap ((IntKind.i64.wrap ((IntKind.i64.wrap (a0_1 + (1 : Int))) - (1 : Int))) * (7 : Int))) + (3 : Int))).tmod (a0_0.length : Int)))) = true then (a0_0[((IntKind.i64.wrap ((IntKind.i64.wrap ((IntKind.i64.wrap ((IntKind.i64.wrap (a0_1 + (1 : Int))) - (1 : Int))) * (7 : Int))) + (3 : Int))).tmod (a0_0.length : Int)).toNat]?).bind fun y3 => if (!((a0_0.length : Int) == 0)) = true then if (!(a1 == 0)) = true then some ((((IntKind.i64.wrap (((BitVec.ofInt IntKind.i64.bits (IntKind.i64.wrap ((IntKind.i64.wrap ((IntKind.i64.wrap ((IntKind.i64.wrap ((IntKind.i64.wrap y2) * (131 : Int))) + (IntKind.i64.wrap ((IntKind.i64.wrap y3) * (1117 : Int))))) + (IntKind.i64.wrap ((IntKind.i64.wrap ((IntKind.i64.wrap (a0_1 + (1 : Int))) - (1 : Int))) * (29 : Int))))) + (IntKind.i64.wrap ((IntKind.i64.wrap ((IntKind.i64.wrap ((IntKind.i64.wrap (a0_1 + (1 : Int))) - (1 : Int))).tdiv (a0_0.length : Int))) * (53 : Int))))) ^^^ BitVec.ofInt IntKind.i64.bits (IntKind.i64.wrap ((IntKind.i64.wrap ((IntKind.i64.wrap ((IntKind.i64.wrap ((IntKind.i64.wrap ((IntKind.i64.wrap y2) * (131 : Int))) + (IntKind.i64.wrap ((IntKind.i64.wrap y3) * (1117 : Int))))) + (IntKind.i64.wrap ((IntKind.i64.wrap ((IntKind.i64.wrap (a0_1 + (1 : Int))) - (1 : Int))) * (29 : Int))))) + (IntKind.i64.wrap ((IntKind.i64.wrap ((IntKind.i64.wrap ((IntKind.i64.wrap (a0_1 + (1 : Int))) - (1 : Int))).tdiv (a0_0.length : Int))) * (53 : Int))))).tdiv (64 : Int)))).toNat : Int))).tmod a1), ()), ((a0_0, (IntKind.i64.wrap (a0_1 + (1 : Int))), ()), (), ())) else none else none else none else none else none else none := by kernel_rfl
theorem F50_eq (k : Nat) (a0_0 : List Int) (a0_1 : Int) (a1 : List Int) : F50 (k + 2) a0_0 a0_1 a1 =
  (F49 k a0_0 a0_1 (a1.length : Int)).bind fun r1 => if (decide (0 ≤ r1.1.1) && decide (r1.1.1 < (a1.length : Int))) = true then (a1[r1.1.1.toNat]?).bind fun y2 => some ((y2, ()), ((r1.2.1.1, r1.2.1.2.1, ()), (), ())) else none := by kernel_rfl
theorem F51_eq (k : Nat) (a0 : Int) (a1 : Int) (a2 : Int) : F51 (k + 2) a0 a1 a2 =
  if (decide (a0 ≥ a1)) = true then some ((decide (a0 ≤ a2), ()), ((), (), (), ())) else some ((false, ()), ((), (), (), ())) := by kernel_rfl
theorem F52_eq (k : Nat) (a0_0 : Int) (a0_1 : List (Bool × (List ByteArray) × (List ByteArray) × (List Int) × Unit)) (a0_2 : List Bool) (a0_3 : Int) (a1 : Int) (a2 : Int) (a3 : ByteArray) (a4 : ByteArray) : F52 (k + 2) a0_0 a0_1 a0_2 a0_3 a1 a2 a3 a4 =
  if (decide (0 ≤ a1)) = true then (a0_1[a1.toNat]?).bind fun y1 => if (decide (0 ≤ a1) && decide (a1 < (a0_2.length : Int))) = true then (a0_2[a1.toNat]?).bind fun y2 => if y2 = true then some ((false, ()), ((a0_0, a0_1, a0_2, a0_3, ()), (), (), (), (), ())) else (F68 k y1.1 y1.2.1 y1.2.2.1 y1.2.2.2.1).bind fun r3 => if (!r3.1.1) = true then some ((false, ()), ((a0_0, a0_1, a0_2, a0_3, ()), (), (), (), (), ())) else if (a1 != a0_0) = true then if (decide ((y1.2.1.length : Int) < (2 : Int))) = true then some ((false, ()), ((a0_0, a0_1, a0_2, a0_3, ()), (), (), (), (), ())) else if (decide (0 ≤ a1) && decide (a1 < (a0_2.length : Int))) = true then (a0_2[a1.toNat]?).bind fun y4 => F52c6 k a0_0 a0_1 (a0_2.set a1.toNat true) a0_3 a2 a3 a4 y1.1 y1.2.1 y1.2.2.1 y1.2.2.2.1 y1.2.1 (y1.2.1.length : Int) (0 : Int) else none else if (decide (0 ≤ a1) && decide (a1 < (a0_2.length : Int))) = true then (a0_2[a1.toNat]?).bind fun y5 => F52c6 k a0_0 a0_1 (a0_2.set a1.toNat true) a0_3 a2 a3 a4 y1.1 y1.2.1 y1.2.2.1 y1.2.2.2.1 y1.2.1 (y1.2.1.length : Int) (0 : Int) else none else none else none := by kernel_rfl
theorem F52c6_eq (k : Nat) (x0_0 : Int) (x0_1 : List (Bool × (List ByteArray) × (List ByteArray) × (List Int) × Unit)) (x0_2 : List Bool) (x0_3 : Int) (x2 : Int) (x3 : ByteArray) (x4 : ByteArray) (x11_0 : Bool) (x11_1 : List ByteArray) (x11_2 : List ByteArray) (x11_3 : List Int) (x60 : List ByteArray) (x61 : Int) (x62 : Int) : F52c6 (k + 1) x0_0 x0_1 x0_2 x0_3 x2 x3 x4 x11_0 x11_1 x11_2 x11_3 x60 x61 x62 =
  if (decide (x62 < x61)) = true then if (decide (0 ≤ x62)) = true then (x60[x62.toNat]?).bind fun y6 => if (Op.bytesLess y6.toList x3.toList) = true then some ((false, ()), ((x0_0, x0_1, x0_2, x0_3, ()), (), (), (), (), ())) else if (!(x4.toList == (⟨#[]⟩ : ByteArray).toList)) = true then if (!(Op.bytesLess y6.toList x4.toList)) = true then some ((false, ()), ((x0_0, x0_1, x0_2, x0_3, ()), (), (), (), (), ())) else F52c6 k x0_0 x0_1 x0_2 x0_3 x2 x3 x4 x11_0 x11_1 x11_2 x11_3 x60 x61 (IntKind.i64.wrap (x62 + (1 : Int))) else F52c6 k x0_0 x0_1 x0_2 x0_3 x2 x3 x4 x11_0 x11_1 x11_2 x11_3 x60 x61 (IntKind.i64.wrap (x62 + (1 : Int))) else none else if x11_0 = true then if (x0_3 == (0 : Int)) = true then F52c14 k x0_0 x0_1 x0_2 x2 x2 else F52c14 k x0_0 x0_1 x0_2 x0_3 x2 else F52c16 k x0_0 x0_1 x0_2 x0_3 x2 x3 x4 x11_0 x11_1 x11_2 x11_3 x11_3 (x11_3.length : Int) (0 : Int) := by kernel_rfl
theorem F52c14_eq (k : Nat) (x0_0 : Int) (x0_1 : List (Bool × (List ByteArray) × (List ByteArray) × (List Int) × Unit)) (x0_2 : List Bool) (x0_3 : Int) (x2 : Int) : F52c14 (k + 1) x0_0 x0_1 x0_2 x0_3 x2 =
  some (((x0_3 == x2), ()), ((x0_0, x0_1, x0_2, x0_3, ()), (), (), (), (), ())) := by kernel_rfl
theorem F52c16_eq (k : Nat) (x0_0 : Int) (x0_1 : List (Bool × (List ByteArray) × (List ByteArray) × (List Int) × Unit)) (x0_2 : List Bool) (x0_3 : Int) (x2 : Int) (x3 : ByteArray) (x4 : ByteArray) (x11_0 : Bool) (x11_1 : List ByteArray) (x11_2 : List ByteArray) (x11_3 : List Int) (x97 : List Int) (x98 : Int) (x99 : Int) : F52c16 (k + 1) x0_0 x0_1 x0_2 x0_3 x2 x3 x4 x11_0 x11_1 x11_2 x11_3 x97 x98 x99 =
  if (decide (x99 < x98)) = true then if (decide (0 ≤ x99)) = true then (x97[x99.toNat]?).bind fun y7 => if (decide (x99 > (0 : Int))) = true then if (decide (0 ≤ (IntKind.i64.wrap (x99 - (1 : Int))))) = true then (x11_1[(IntKind.i64.wrap (x99 - (1 : Int))).toNat]?).bind fun y8 => F52c21 k x0_0 x0_1 x0_2 x0_3 x2 x3 x4 x11_0 x11_1 x11_2 x11_3 x99 y7 y8 x4 x97 x98 x99 else none else F52c21 k x0_0 x0_1 x0_2 x0_3 x2 x3 x4 x11_0 x11_1 x11_2 x11_3 x99 y7 x3 x4 x97 x98 x99 else none else some ((true, ()), ((x0_0, x0_1, x0_2, x0_3, ()), (), (), (), (), ())) := by kernel_rfl
theorem F52c21_eq (k : Nat) (x0_0 : Int) (x0_1 : List (Bool × (List ByteArray) × (List ByteArray) × (List Int) × Unit)) (x0_2 : List Bool) (x0_3 : Int) (x2 : Int) (x3 : ByteArray) (x4 : ByteArray) (x11_0 : Bool) (x11_1 : List ByteArray) (x11_2 : List ByteArray) (x11_3 : List Int) (x14 : Int) (x15 : Int) (x16 : ByteArray) (x17 : ByteArray) (x97 : List Int) (x98 : Int) (x99 : Int) : F52c21 (k + 1) x0_0 x0_1 x0_2 x0_3 x2 x3 x4 x11_0 x11_1 x11_2 x11_3 x14 x15 x16 x17 x97 x98 x99 =
  if (decide (x14 < (x11_1.length : Int))) = true then if (decide (0 ≤ x14)) = true then (x11_1[x14.toNat]?).bind fun y9 => F52c23 k x0_0 x0_1 x0_2 x0_3 x2 x3 x4 x11_0 x11_1 x11_2 x11_3 x15 x16 y9 x97 x98 x99 else none else F52c23 k x0_0 x0_1 x0_2 x0_3 x2 x3 x4 x11_0 x11_1 x11_2 x11_3 x15 x16 x17 x97 x98 x99 := by kernel_rfl
theorem F52c23_eq (k : Nat) (x0_0 : Int) (x0_1 : List (Bool × (List ByteArray) × (List ByteArray) × (List Int) × Unit)) (x0_2 : List Bool) (x0_3 : Int) (x2 : Int) (x3 : ByteArray) (x4 : ByteArray) (x11_0 : Bool) (x11_1 : List ByteArray) (x11_2 : List ByteArray) (x11_3 : List Int) (x15 : Int) (x16 : ByteArray) (x17 : ByteArray) (x97 : List Int) (x98 : Int) (x99 : Int) : F52c23 (k + 1) x0_0 x0_1 x0_2 x0_3 x2 x3 x4 x11_0 x11_1 x11_2 x11_3 x15 x16 x17 x97 x98 x99 =
  (F52 k x0_0 x0_1 x0_2 x0_3 x15 (IntKind.i64.wrap (x2 + (1 : Int))) x16 x17).bind fun r10 => if (!r10.1.1) = true then some ((false, ()), ((r10.2.1.1, r10.2.1.2.1, r10.2.1.2.2.1, r10.2.1.2.2.2.1, ()), (), (), (), (), ())) else F52c16 k r10.2.1.1 r10.2.1.2.1 r10.2.1.2.2.1 r10.2.1.2.2.2.1 x2 x3 x4 x11_0 x11_1 x11_2 x11_3 x97 x98 (IntKind.i64.wrap (x99 + (1 : Int))) := by kernel_rfl
theorem F53_eq (k : Nat) (a0_0 : Bool) (a0_1 : List ByteArray) (a0_2 : List ByteArray) (a0_3 : List Int) : F53 (k + 2) a0_0 a0_1 a0_2 a0_3 =
  if (!a0_0) = true then if ((a0_1.length : Int) == (0 : Int)) = true then if ((a0_2.length : Int) == (0 : Int)) = true then some ((((a0_3.length : Int) == (0 : Int)), ()), (((), (), (), (), ()), ())) else some ((false, ()), (((), (), (), (), ()), ())) else some ((false, ()), (((), (), (), (), ()), ())) else some ((false, ()), (((), (), (), (), ()), ())) := by kernel_rfl
theorem F58_eq (k : Nat) (a0_0 : Bool) (a0_1 : List ByteArray) (a0_2 : List ByteArray) (a0_3 : List Int) : F58 (k + 2) a0_0 a0_1 a0_2 a0_3 =
  (F72 k a0_1).bind fun r1 => if (!r1.1.1) = true then some ((false, ()), (((), (), (), (), ()), ())) else if a0_0 = true then F58c5 k a0_0 a0_1 a0_2 a0_3 (0 : Int) else F58c11 k a0_0 a0_1 a0_2 a0_3 (0 : Int) := by kernel_rfl
theorem F58c5_eq (k : Nat) (x1_0 : Bool) (x1_1 : List ByteArray) (x1_2 : List ByteArray) (x1_3 : List Int) (x3 : Int) : F58c5 (k + 1) x1_0 x1_1 x1_2 x1_3 x3 =
  if (decide (x3 < (x1_2.length : Int))) = true then if (decide (0 ≤ x3)) = true then (x1_2[x3.toNat]?).bind fun y2 => if (decide ((y2.size : Int) > (140 : Int))) = true then some ((false, ()), (((), (), (), (), ()), ())) else F58c5 k x1_0 x1_1 x1_2 x1_3 (IntKind.i64.wrap (x3 + (1 : Int))) else none else if ((x1_2.length : Int) == (x1_1.length : Int)) = true then some ((((x1_3.length : Int) == (0 : Int)), ()), (((), (), (), (), ()), ())) else some ((false, ()), (((), (), (), (), ()), ())) := by kernel_rfl
theorem F58c11_eq (k : Nat) (x1_0 : Bool) (x1_1 : List ByteArray) (x1_2 : List ByteArray) (x1_3 : List Int) (x4 : Int) : F58c11 (k + 1) x1_0 x1_1 x1_2 x1_3 x4 =
  if (decide (x4 < (x1_3.length : Int))) = true then if (decide (0 ≤ x4)) = true then (x1_3[x4.toNat]?).bind fun y3 => (F39 k y3 (0 : Int) (18 : Int)).bind fun r4 => if (!r4.1.1) = true then some ((false, ()), (((), (), (), (), ()), ())) else F58c11 k x1_0 x1_1 x1_2 x1_3 (IntKind.i64.wrap (x4 + (1 : Int))) else none else if ((x1_2.length : Int) == (0 : Int)) = true then if (decide ((x1_1.length : Int) > (0 : Int))) = true then some ((((x1_3.length : Int) == (IntKind.i64.wrap ((x1_1.length : Int) + (1 : Int)))), ()), (((), (), (), (), ()), ())) else some ((false, ()), (((), (), (), (), ()), ())) else some ((false, ()), (((), (), (), (), ()), ())) := by kernel_rfl
theorem F59_eq (k : Nat) (a0 : List ByteArray) (a1 : ByteArray) (a2 : ByteArray) : F59 (k + 2) a0 a1 a2 =
  F59c2 k a0 a1 a2 (0 : Int) := by kernel_rfl
theorem F59c2_eq (k : Nat) (x0 : List ByteArray) (x1 : ByteArray) (x2 : ByteArray) (x7 : Int) : F59c2 (k + 1) x0 x1 x2 x7 =
  if (decide (x7 < (x0.length : Int))) = true then if (decide (0 ≤ x7)) = true then (x0[x7.toNat]?).bind fun y1 => if (Op.bytesLess y1.toList x1.toList) = true then some ((false, ()), ((), (), (), ())) else if (!(x2.toList == (⟨#[]⟩ : ByteArray).toList)) = true then if (decide (0 ≤ x7)) = true then (x0[x7.toNat]?).bind fun y2 => if (!(Op.bytesLess y2.toList x2.toList)) = true then some ((false, ()), ((), (), (), ())) else F59c2 k x0 x1 x2 (IntKind.i64.wrap (x7 + (1 : Int))) else none else F59c2 k x0 x1 x2 (IntKind.i64.wrap (x7 + (1 : Int))) else none else some ((true, ()), ((), (), (), ())) := by kernel_rfl
theorem F67_eq (k : Nat) (a0 : Int) (a1 : Int) : F67 (k + 2) a0 a1 =
  (F79 k a0).bind fun r1 => F67c2 k a1 r1.1.1 := by kernel_rfl
theorem F67c2_eq (k : Nat) (x1 : Int) (x5 : ByteArray) : F67c2 (k + 1) x1 x5 =
  if (decide ((x5.size : Int) < x1)) = true then if (Nat.ble ((⟨#[48]⟩ : ByteArray).size + x5.size) 9223372036854775807) = true then F67c2 k x1 ((⟨#[48]⟩ : ByteArray) ++ x5) else none else some ((x5, ()), ((), (), ())) := by kernel_rfl
theorem F68_eq (k : Nat) (a0_0 : Bool) (a0_1 : List ByteArray) (a0_2 : List ByteArray) (a0_3 : List Int) : F68 (k + 2) a0_0 a0_1 a0_2 a0_3 =
  if (decide ((a0_1.length : Int) > (4 : Int))) = true then some ((false, ()), (((), (), (), (), ()), ())) else F68c4 k a0_0 a0_1 a0_2 a0_3 a0_1 (a0_1.length : Int) (0 : Int) := by kernel_rfl
theorem F68c4_eq (k : Nat) (x1_0 : Bool) (x1_1 : List ByteArray) (x1_2 : List ByteArray) (x1_3 : List Int) (x10 : List ByteArray) (x11 : Int) (x12 : Int) : F68c4 (k + 1) x1_0 x1_1 x1_2 x1_3 x10 x11 x12 =
  if (decide (x12 < x11)) = true then if (decide (0 ≤ x12)) = true then (x10[x12.toNat]?).bind fun y1 => (F51 k (y1.size : Int) (1 : Int) (96 : Int)).bind fun r2 => if (!r2.1.1) = true then some ((false, ()), (((), (), (), (), ()), ())) else if (decide (x12 > (0 : Int))) = true then if (decide (0 ≤ (IntKind.i64.wrap (x12 - (1 : Int))))) = true then (x1_1[(IntKind.i64.wrap (x12 - (1 : Int))).toNat]?).bind fun y3 => if (!(Op.bytesLess y3.toList y1.toList)) = true then some ((false, ()), (((), (), (), (), ()), ())) else F68c4 k x1_0 x1_1 x1_2 x1_3 x10 x11 (IntKind.i64.wrap (x12 + (1 : Int))) else none else F68c4 k x1_0 x1_1 x1_2 x1_3 x10 x11 (IntKind.i64.wrap (x12 + (1 : Int))) else none else if x1_0 = true then if ((x1_3.length : Int) == (0 : Int)) = true then if ((x1_2.length : Int) == (x1_1.length : Int)) = true then (F82080 k x1_2).bind fun r4 => some (((!r4.1.1), ()), (((), (), (), (), ()), ())) else some ((false, ()), (((), (), (), (), ()), ())) else some ((false, ()), (((), (), (), (), ()), ())) else if ((x1_2.length : Int) == (0 : Int)) = true then if (decide ((x1_1.length : Int) > (0 : Int))) = true then if ((x1_3.length : Int) == (IntKind.i64.wrap ((x1_1.length : Int) + (1 : Int)))) = true then (F84082 k x1_3).bind fun r5 => some (((!r5.1.1), ()), (((), (), (), (), ()), ())) else some ((false, ()), (((), (), (), (), ()), ())) else some ((false, ()), (((), (), (), (), ()), ())) else some ((false, ()), (((), (), (), (), ()), ())) := by kernel_rfl
theorem F72_eq (k : Nat) (a0 : List ByteArray) : F72 (k + 2) a0 =
  F72c2 k a0 (0 : Int) := by kernel_rfl
theorem F72c2_eq (k : Nat) (x0 : List ByteArray) (x3 : Int) : F72c2 (k + 1) x0 x3 =
  if (decide (x3 < (x0.length : Int))) = true then if (decide (0 ≤ x3)) = true then (x0[x3.toNat]?).bind fun y1 => (F39 k (y1.size : Int) (1 : Int) (96 : Int)).bind fun r2 => if (!r2.1.1) = true then some ((false, ()), ((), ())) else if (decide (x3 > (0 : Int))) = true then if (decide (0 ≤ x3)) = true then (x0[x3.toNat]?).bind fun y3 => if (decide (0 ≤ (IntKind.i64.wrap (x3 - (1 : Int))))) = true then (x0[(IntKind.i64.wrap (x3 - (1 : Int))).toNat]?).bind fun y4 => if (Op.bytesLess y3.toList y4.toList || y3.toList == y4.toList) = true then some ((false, ()), ((), ())) else F72c2 k x0 (IntKind.i64.wrap (x3 + (1 : Int))) else none else none else F72c2 k x0 (IntKind.i64.wrap (x3 + (1 : Int))) else none else some ((decide ((x0.length : Int) ≤ (4 : Int)), ()), ((), ())) := by kernel_rfl
theorem F73_eq (k : Nat) (a0_0 : Int) (a0_1 : List (Bool × (List ByteArray) × (List ByteArray) × (List Int) × Unit)) (a1 : ByteArray) : F73 (k + 2) a0_0 a0_1 a1 =
  (F85 k a0_0 a0_1 a1).bind fun r1 => (F86 k r1.1.1.2.1 a1).bind fun r2 => if (decide (r2.1.1 < (r1.1.1.2.1.length : Int))) = true then if (decide (0 ≤ r2.1.1)) = true then (r1.1.1.2.1[r2.1.1.toNat]?).bind fun y3 => if (y3.toList == a1.toList) = true then if (decide (0 ≤ r2.1.1)) = true then (r1.1.1.2.2.1[r2.1.1.toNat]?).bind fun y4 => some ((y4, true, ()), (((), (), ()), (), ())) else none else some (((⟨#[]⟩ : ByteArray), false, ()), (((), (), ()), (), ())) else none else some (((⟨#[]⟩ : ByteArray), false, ()), (((), (), ()), (), ())) := by kernel_rfl
theorem F77_eq (k : Nat) (a0_0 : Int) (a0_1 : List (Bool × (List ByteArray) × (List ByteArray) × (List Int) × Unit)) : F77 (k + 2) a0_0 a0_1 =
  F77c2 k a0_0 a0_1 (0 : Int) := by kernel_rfl
theorem F77c2_eq (k : Nat) (x1_0 : Int) (x1_1 : List (Bool × (List ByteArray) × (List ByteArray) × (List Int) × Unit)) (x3 : Int) : F77c2 (k + 1) x1_0 x1_1 x3 =
  if (decide (x3 < (x1_1.length : Int))) = true then if (decide (0 ≤ x3)) = true then (x1_1[x3.toNat]?).bind fun y1 => (F41 k y1.1 y1.2.1 y1.2.2.1 y1.2.2.2.1).bind fun r2 => if r2.1.1 = true then some ((x3, ()), (((), (), ()), ())) else F77c2 k x1_0 x1_1 (IntKind.i64.wrap (x3 + (1 : Int))) else none else some (((-1 : Int), ()), (((), (), ()), ())) := by kernel_rfl
theorem F78_eq (k : Nat) (a0 : List ByteArray) (a1 : List Int) : F78 (k + 2) a0 a1 =
  (F87 k false a0 ([] : List ByteArray) a1).bind fun r1 => some (((r1.1.1.1, r1.1.1.2.1, r1.1.1.2.2.1, r1.1.1.2.2.2.1, ()), ()), ((), (), ())) := by kernel_rfl
theorem F79_eq (k : Nat) (a0 : Int) : F79 (k + 2) a0 =
  if (decide (a0 < (-9223372036854775807 : Int))) = true then some (((⟨#[45, 57, 50, 50, 51, 51, 55, 50, 48, 51, 54, 56, 53, 52, 55, 55, 53, 56, 48, 56]⟩ : ByteArray), ()), ((), ())) else if (decide (a0 < (0 : Int))) = true then (F79 k (IntKind.i64.wrap (0 - a0))).bind fun r1 => if (Nat.ble ((⟨#[45]⟩ : ByteArray).size + r1.1.1.size) 9223372036854775807) = true then some ((((⟨#[45]⟩ : ByteArray) ++ r1.1.1), ()), ((), ())) else none else if (decide (a0 < (10 : Int))) = true then some (((bytesOf [(IntKind.u8.wrap (IntKind.i64.wrap ((48 : Int) + a0)))]), ()), ((), ())) else (F79 k (IntKind.i64.wrap (a0.tdiv (10 : Int)))).bind fun r2 => if (Nat.ble (r2.1.1.size + (bytesOf [(IntKind.u8.wrap (IntKind.i64.wrap ((48 : Int) + (a0.tmod (10 : Int)))))]).size) 9223372036854775807) = true then some (((r2.1.1 ++ (bytesOf [(IntKind.u8.wrap (IntKind.i64.wrap ((48 : Int) + (a0.tmod (10 : Int)))))])), ()), ((), ())) else none := by kernel_rfl
theorem F81_eq (k : Nat) (a0 : ByteArray) : F81 (k + 2) a0 =
  some ((decide ((a0.size : Int) > (140 : Int)), ()), ((), ())) := by kernel_rfl
theorem F83_eq (k : Nat) (a0 : Int) : F83 (k + 2) a0 =
  (F51 k a0 (0 : Int) (18 : Int)).bind fun r1 => some (((!r1.1.1), ()), ((), ())) := by kernel_rfl
theorem F85_eq (k : Nat) (a0_0 : Int) (a0_1 : List (Bool × (List ByteArray) × (List ByteArray) × (List Int) × Unit)) (a1 : ByteArray) : F85 (k + 2) a0_0 a0_1 a1 =
  F85c2 k a1 a0_0 a0_1 false ([] : List ByteArray) ([] : List ByteArray) ([] : List Int) a0_0 := by kernel_rfl
theorem F85c2_eq (k : Nat) (x1 : ByteArray) (x2_0 : Int) (x2_1 : List (Bool × (List ByteArray) × (List ByteArray) × (List Int) × Unit)) (x4_0 : Bool) (x4_1 : List ByteArray) (x4_2 : List ByteArray) (x4_3 : List Int) (x5 : Int) : F85c2 (k + 1) x1 x2_0 x2_1 x4_0 x4_1 x4_2 x4_3 x5 =
  if (decide (0 ≤ x5)) = true then (x2_1[x5.toNat]?).bind fun y1 => if (!y1.1) = true then if (decide (0 ≤ x5)) = true then (x2_1[x5.toNat]?).bind fun y2 => if (decide (0 ≤ x5)) = true then (x2_1[x5.toNat]?).bind fun y3 => (F90 k y3.2.1 x1).bind fun r4 => if (decide (0 ≤ r4.1.1)) = true then (y2.2.2.2.1[r4.1.1.toNat]?).bind fun y5 => F85c2 k x1 x2_0 x2_1 x4_0 x4_1 x4_2 x4_3 y5 else none else none else none else if (decide (0 ≤ x5)) = true then (x2_1[x5.toNat]?).bind fun y6 => some (((y6.1, y6.2.1, y6.2.2.1, y6.2.2.2.1, ()), ()), (((), (), ()), (), ())) else none else none := by kernel_rfl
theorem F86_eq (k : Nat) (a0 : List ByteArray) (a1 : ByteArray) : F86 (k + 2) a0 a1 =
  F86c2 k a0 a1 (0 : Int) := by kernel_rfl
theorem F86c2_eq (k : Nat) (x0 : List ByteArray) (x1 : ByteArray) (x5 : Int) : F86c2 (k + 1) x0 x1 x5 =
  if (decide (x5 < (x0.length : Int))) = true then if (decide (0 ≤ x5)) = true then (x0[x5.toNat]?).bind fun y1 => if (Op.bytesLess y1.toList x1.toList) = true then F86c2 k x0 x1 (IntKind.i64.wrap (x5 + (1 : Int))) else some ((x5, ()), ((), (), ())) else none else some ((x5, ()), ((), (), ())) := by kernel_rfl
theorem F87_eq (k : Nat) (a0_0 : Bool) (a0_1 : List ByteArray) (a0_2 : List ByteArray) (a0_3 : List Int) : F87 (k + 2) a0_0 a0_1 a0_2 a0_3 =
  if (decide (([] : List ByteArray).length + a0_1.length ≤ 8796093022208)) = true then if (decide (([] : List ByteArray).length + a0_2.length ≤ 8796093022208)) = true then if (decide (([] : List Int).length + a0_3.length ≤ 17592186044416)) = true then some (((a0_0, (([] : List ByteArray) ++ a0_1), (([] : List ByteArray) ++ a0_2), (([] : List Int) ++ a0_3), ()), ()), (((), (), (), (), ()), ())) else none else none else none := by kernel_rfl
theorem F88_eq (k : Nat) (a0 : List ByteArray) (a1 : List ByteArray) : F88 (k + 2) a0 a1 =
  (F87 k true a0 a1 ([] : List Int)).bind fun r1 => some (((r1.1.1.1, r1.1.1.2.1, r1.1.1.2.2.1, r1.1.1.2.2.2.1, ()), ()), ((), (), ())) := by kernel_rfl
theorem F90_eq (k : Nat) (a0 : List ByteArray) (a1 : ByteArray) : F90 (k + 2) a0 a1 =
  F90c2 k a0 a1 (0 : Int) := by kernel_rfl
theorem F90c2_eq (k : Nat) (x0 : List ByteArray) (x1 : ByteArray) (x5 : Int) : F90c2 (k + 1) x0 x1 x5 =
  if (decide (x5 < (x0.length : Int))) = true then if (decide (0 ≤ x5)) = true then (x0[x5.toNat]?).bind fun y1 => if (Op.bytesLess y1.toList x1.toList || y1.toList == x1.toList) = true then F90c2 k x0 x1 (IntKind.i64.wrap (x5 + (1 : Int))) else some ((x5, ()), ((), (), ())) else none else some ((x5, ()), ((), (), ())) := by kernel_rfl
theorem F93_eq (k : Nat) (a0 : List ByteArray) (a1 : Int) (a2 : ByteArray) : F93 (k + 2) a0 a1 a2 =
  if (decide (0 ≤ a1) && decide (a1 ≤ (a0.length : Int))) = true then if (decide (([] : List ByteArray).length + (slices a0 0 a1.toNat).length ≤ 8796093022208)) = true then if (decide ((([] : List ByteArray) ++ (slices a0 0 a1.toNat)).length + [a2].length ≤ 8796093022208)) = true then if (decide (0 ≤ a1) && decide (a1 ≤ (a0.length : Int))) = true then if (decide (((([] : List ByteArray) ++ (slices a0 0 a1.toNat)) ++ [a2]).length + (slices a0 a1.toNat a0.length).length ≤ 8796093022208)) = true then some (((((([] : List ByteArray) ++ (slices a0 0 a1.toNat)) ++ [a2]) ++ (slices a0 a1.toNat a0.length)), ()), ((), (), (), ())) else none else none else none else none else none := by kernel_rfl
theorem F94_eq (k : Nat) (a0 : List Int) (a1 : Int) (a2 : Int) : F94 (k + 2) a0 a1 a2 =
  if (decide (0 ≤ a1) && decide (a1 ≤ (a0.length : Int))) = true then if (decide (([] : List Int).length + (slices a0 0 a1.toNat).length ≤ 17592186044416)) = true then if (decide ((([] : List Int) ++ (slices a0 0 a1.toNat)).length + [a2].length ≤ 17592186044416)) = true then if (decide (0 ≤ a1) && decide (a1 ≤ (a0.length : Int))) = true then if (decide (((([] : List Int) ++ (slices a0 0 a1.toNat)) ++ [a2]).length + (slices a0 a1.toNat a0.length).length ≤ 17592186044416)) = true then some (((((([] : List Int) ++ (slices a0 0 a1.toNat)) ++ [a2]) ++ (slices a0 a1.toNat a0.length)), ()), ((), (), (), ())) else none else none else none else none else none := by kernel_rfl
theorem F97_eq (k : Nat) (a0_0 : Int) (a0_1 : List (Bool × (List ByteArray) × (List ByteArray) × (List Int) × Unit)) (a1 : Int) (a2 : Int) : F97 (k + 2) a0_0 a0_1 a1 a2 =
  if (decide (0 ≤ a1)) = true then (a0_1[a1.toNat]?).bind fun y1 => (F39 k a2 (0 : Int) (IntKind.i64.wrap ((y1.2.2.2.1.length : Int) - (1 : Int)))).bind fun r2 => if (!r2.1.1) = true then some (((0 : Int), ()), (((), (), ()), (), (), ())) else if (decide (0 ≤ a1)) = true then (a0_1[a1.toNat]?).bind fun y3 => if (decide (0 ≤ a2)) = true then (y3.2.2.2.1[a2.toNat]?).bind fun y4 => if (decide (0 ≤ y4)) = true then (a0_1[y4.toNat]?).bind fun y5 => some (((y5.2.1.length : Int), ()), (((), (), ()), (), (), ())) else none else none else none else none := by kernel_rfl
theorem F82080_eq (k : Nat) (a0 : List ByteArray) : F82080 (k + 2) a0 =
  (F82095 k a0).bind fun r1 => some ((decide (r1.1.1 ≥ (0 : Int)), ()), ((), (), ())) := by kernel_rfl
theorem F82095_eq (k : Nat) (a0 : List ByteArray) : F82095 (k + 2) a0 =
  F82095c2 k a0 (a0.length : Int) (0 : Int) := by kernel_rfl
theorem F82095c2_eq (k : Nat) (x0 : List ByteArray) (x7 : Int) (x8 : Int) : F82095c2 (k + 1) x0 x7 x8 =
  if (decide (x8 < x7)) = true then if (decide (0 ≤ x8)) = true then (x0[x8.toNat]?).bind fun y1 => (F81 k y1).bind fun r2 => if r2.1.1 = true then some ((x8, ()), ((), (), ())) else F82095c2 k x0 x7 (IntKind.i64.wrap (x8 + (1 : Int))) else none else some (((-1 : Int), ()), ((), (), ())) := by kernel_rfl
theorem F84082_eq (k : Nat) (a0 : List Int) : F84082 (k + 2) a0 =
  (F84096 k a0).bind fun r1 => some ((decide (r1.1.1 ≥ (0 : Int)), ()), ((), (), ())) := by kernel_rfl
theorem F84096_eq (k : Nat) (a0 : List Int) : F84096 (k + 2) a0 =
  F84096c2 k a0 (a0.length : Int) (0 : Int) := by kernel_rfl
theorem F84096c2_eq (k : Nat) (x0 : List Int) (x7 : Int) (x8 : Int) : F84096c2 (k + 1) x0 x7 x8 =
  if (decide (x8 < x7)) = true then if (decide (0 ≤ x8)) = true then (x0[x8.toNat]?).bind fun y1 => (F83 k y1).bind fun r2 => if r2.1.1 = true then some ((x8, ()), ((), (), ())) else F84096c2 k x0 x7 (IntKind.i64.wrap (x8 + (1 : Int))) else none else some (((-1 : Int), ()), ((), (), ())) := by kernel_rfl
end Go.Proofs.Ytcolgghllacloaa.R
end

section
namespace Go.Proofs.Ytcolgghllacloaa.R
open Go.Rf
abbrev NodeT : Type := Bool × List ByteArray × List ByteArray × List Int × Unit
def okLen (n : Nat) : Prop := n ≤ 1048576
def okNode (n : NodeT) : Prop := okLen n.2.1.length ∧ okLen n.2.2.1.length ∧ okLen n.2.2.2.1.length
end Go.Proofs.Ytcolgghllacloaa.R
end

section
namespace Go.Proofs.Ytcolgghllacloaa.R
open Go.Rf
def inNode (n lo hi : Int) : Bool := decide (n ≥ lo) && decide (n ≤ hi)
theorem F39_ev (n lo hi : Int) : Ev (fun k => F39 k n lo hi) ((inNode n lo hi, ()), ((), (), (), ())) := by
 refine Ev.step 2 (fun k => F39_eq k n lo hi) ?_
 unfold inNode
 cases h : decide (n ≥ lo) with
 | true => exact Ev.now _
 | false => exact Ev.now _
theorem F51_ev (n lo hi : Int) : Ev (fun k => F51 k n lo hi) ((inNode n lo hi, ()), ((), (), (), ())) := by
 refine Ev.step 2 (fun k => F51_eq k n lo hi) ?_
 unfold inNode
 cases h : decide (n ≥ lo) with
 | true => exact Ev.now _
 | false => exact Ev.now _
def keyOk (l : List ByteArray) (i : Nat) : Bool := inNode ((l.getD i ByteArray.empty).size : Int) 1 96 && (i == 0 || Op.bytesLess (l.getD (i - 1) ByteArray.empty).toList (l.getD i ByteArray.empty).toList)
def keysOk' (l : List ByteArray) : Bool := (List.range l.length).all (keyOk l)
theorem getD_of {l : List ByteArray} {i : Nat} (h : i < l.length) : l[i]? = some (l.getD i ByteArray.empty) := by
 rw [List.getD_eq_getElem?_getD, List.getElem?_eq_getElem h]
 rfl
theorem gt0 {i : Nat} : decide ((i : Int) > 0) = !(i == 0) := by
 cases i with
 | zero => rfl
 | succ i => simp
theorem pred64 {i : Nat} (h : 0 < i) (hn : i ≤ 4611686018427387904) : IntKind.i64.wrap ((i : Int) - 1) = ((i - 1 : Nat) : Int) := by
 rw [wrap64 (by omega) (by omega)]
 omega
theorem F72_ev (l : List ByteArray) (h : okLen l.length) : Ev (fun k => F72 k l) ((keysOk' l && decide ((l.length : Int) ≤ 4), ()), ((), ())) := by
 unfold okLen at h
 refine Ev.step 2 (fun k => F72_eq k l) ?_
 have := all_loop (L := fun k i => F72c2 k l i) (n := l.length) (no := ((false, ()), ((), ()))) (yes := ((decide ((l.length : Int) ≤ 4), ()), ((), ()))) (c := keyOk l) ?_ ?_ ?_
 ·unfold keysOk'
  refine (congrArg (Ev _) ?_).mp this
  cases (List.range l.length).all (keyOk l) <;> rfl
 ·intro i hi hc
  refine Ev.step 1 (fun k => F72c2_eq k l i) ?_
  simp only [lt_true hi, ge0, if_true, Int.toNat_natCast, getD_of hi, Option.bind_some]
  refine Ev.bind (F39_ev _ 1 96) ?_
  simp only [gt0]
  unfold keyOk at hc
  cases hw : inNode ((l.getD i ByteArray.empty).size : Int) 1 96 with
  | false => exact Ev.now _
  | true =>
   rw [hw] at hc
   simp only [Bool.true_and, Bool.or_eq_false_iff] at hc
   have hp : 0 < i := by
    rcases Nat.eq_zero_or_pos i with h0 | h0
    ·rw [h0] at hc; cases hc.1
    ·exact h0
   have hi2 : i - 1 < l.length := by omega
   simp only [hc.1, Bool.not_false, Bool.not_true, Bool.false_eq_true, if_false, if_true, pred64 hp (by omega), ge0, Int.toNat_natCast, getD_of hi2, Option.bind_some]
   have := not_less (l.getD (i - 1) ByteArray.empty).toList (l.getD i ByteArray.empty).toList
   rw [hc.2] at this
   simp only [← this, Bool.not_false, if_true]
   exact Ev.now _
 ·intro i hi hc r hr
  refine Ev.step 1 (fun k => F72c2_eq k l i) ?_
  simp only [lt_true hi, ge0, if_true, Int.toNat_natCast, getD_of hi, Option.bind_some]
  refine Ev.bind (F39_ev _ 1 96) ?_
  unfold keyOk at hc
  simp only [Bool.and_eq_true, Bool.or_eq_true] at hc
  simp only [gt0, hc.1, Bool.not_true, Bool.false_eq_true, if_false]
  rw [wrap_succ (by omega)]
  cases h0 : (i == 0) with
  | true => exact hr
  | false =>
   have hp : 0 < i := by
    rcases Nat.eq_zero_or_pos i with h1 | h1
    ·rw [h1] at h0; cases h0
    ·exact h1
   have hi2 : i - 1 < l.length := by omega
   rcases hc.2 with hc2 | hc2
   ·rw [h0] at hc2; cases hc2
   ·simp only [Bool.not_false, if_true, pred64 hp (by omega), ge0, Int.toNat_natCast, getD_of hi2, Option.bind_some]
    have := not_less (l.getD (i - 1) ByteArray.empty).toList (l.getD i ByteArray.empty).toList
    rw [hc2] at this
    simp only [← this, Bool.not_true, Bool.false_eq_true, if_false]
    exact hr
 ·refine Ev.step 1 (fun k => F72c2_eq k l l.length) ?_
  simp only [lt_false (Nat.le_refl l.length), Bool.false_eq_true, if_false]
  exact Ev.now _
def valsOk (l : List ByteArray) : Bool := (List.range l.length).all fun i => !decide (((l.getD i ByteArray.empty).size : Int) > 140)
def kidsOk (l : List Int) : Bool := (List.range l.length).all fun i => inNode (l.getD i 0) 0 18
def nodeOk (n : NodeT) : Bool := keysOk' n.2.1 && decide ((n.2.1.length : Int) ≤ 4) && (if n.1 = true then valsOk n.2.2.1 && ((n.2.2.1.length : Int) == (n.2.1.length : Int)) && ((n.2.2.2.1.length : Int) == 0)
 else kidsOk n.2.2.2.1 && ((n.2.2.1.length : Int) == 0) && decide ((n.2.1.length : Int) > 0) && ((n.2.2.2.1.length : Int) == (n.2.1.length : Int) + 1))
theorem getI_of {l : List Int} {i : Nat} (h : i < l.length) : l[i]? = some (l.getD i 0) := by
 rw [List.getD_eq_getElem?_getD, List.getElem?_eq_getElem h]
 rfl
theorem F58_ev (n : NodeT) (h : okNode n) : Ev (fun k => F58 k n.1 n.2.1 n.2.2.1 n.2.2.2.1) ((nodeOk n, ()), (((), (), (), (), ()), ())) := by
 obtain ⟨h1, h2, h3⟩ := h
 obtain ⟨leaf, keys, vals, kids, u⟩ := n
 simp only at h1 h2 h3 ⊢
 refine Ev.step 2 (fun k => F58_eq k leaf keys vals kids) ?_
 refine Ev.bind (F72_ev keys h1) ?_
 unfold okLen at h1 h2 h3
 unfold nodeOk
 cases hk : (keysOk' keys && decide ((keys.length : Int) ≤ 4)) with
 | false =>
  simp only [Bool.false_and]
  exact Ev.now _
 | true =>
  simp only [Bool.true_and, Bool.not_true, Bool.false_eq_true, if_false]
  cases leaf with
  | true =>
   simp only [if_true]
   have := all_loop (L := fun k i => F58c5 k true keys vals kids i) (n := vals.length) (no := ((false, ()), (((), (), (), (), ()), ()))) (yes := ((((vals.length : Int) == (keys.length : Int)) && ((kids.length : Int) == 0), ()), (((), (), (), (), ()), ())))
    (c := fun i => !decide (((vals.getD i ByteArray.empty).size : Int) > 140)) ?_ ?_ ?_
   ·unfold valsOk
    refine (congrArg (Ev _) ?_).mp this
    cases (List.range vals.length).all _ <;> simp
   ·intro i hi hc
    refine Ev.step 1 (fun k => F58c5_eq k true keys vals kids i) ?_
    simp only [Bool.not_eq_false'] at hc
    simp only [lt_true hi, ge0, if_true, Int.toNat_natCast, getD_of hi, Option.bind_some, hc]
    exact Ev.now _
   ·intro i hi hc r hr
    refine Ev.step 1 (fun k => F58c5_eq k true keys vals kids i) ?_
    simp only [Bool.not_eq_true'] at hc
    simp only [lt_true hi, ge0, if_true, Int.toNat_natCast, getD_of hi, Option.bind_some, hc, Bool.false_eq_true, if_false]
    rw [wrap_succ (by omega)]
    exact hr
   ·refine Ev.step 1 (fun k => F58c5_eq k true keys vals kids vals.length) ?_
    simp only [lt_false (Nat.le_refl vals.length), Bool.false_eq_true, if_false]
    cases ((vals.length : Int) == (keys.length : Int)) with
    | true => exact Ev.now _
    | false => exact Ev.now _
  | false =>
   simp only [Bool.false_eq_true, if_false]
   have := all_loop (L := fun k i => F58c11 k false keys vals kids i) (n := kids.length) (no := ((false, ()), (((), (), (), (), ()), ()))) (yes := ((((vals.length : Int) == 0) && decide ((keys.length : Int) > 0) && ((kids.length : Int) == (keys.length : Int) + 1), ()), (((), (), (), (), ()), ())))
    (c := fun i => inNode (kids.getD i 0) 0 18) ?_ ?_ ?_
   ·unfold kidsOk
    refine (congrArg (Ev _) ?_).mp this
    cases (List.range kids.length).all _ <;> simp
   ·intro i hi hc
    refine Ev.step 1 (fun k => F58c11_eq k false keys vals kids i) ?_
    simp only [lt_true hi, ge0, if_true, Int.toNat_natCast, getI_of hi, Option.bind_some]
    refine Ev.bind (F39_ev _ 0 18) ?_
    simp only [hc, Bool.not_false, if_true]
    exact Ev.now _
   ·intro i hi hc r hr
    refine Ev.step 1 (fun k => F58c11_eq k false keys vals kids i) ?_
    simp only [lt_true hi, ge0, if_true, Int.toNat_natCast, getI_of hi, Option.bind_some]
    refine Ev.bind (F39_ev _ 0 18) ?_
    simp only [hc, Bool.not_true, Bool.false_eq_true, if_false]
    rw [wrap_succ (by omega)]
    exact hr
   ·refine Ev.step 1 (fun k => F58c11_eq k false keys vals kids kids.length) ?_
    simp only [lt_false (Nat.le_refl kids.length), Bool.false_eq_true, if_false]
    rw [wrap64 (n := (keys.length : Int) + 1) (by omega) (by omega)]
    cases ((vals.length : Int) == 0) with
    | false => exact Ev.now _
    | true =>
     cases decide ((keys.length : Int) > 0) with
     | true => exact Ev.now _
     | false => exact Ev.now _
theorem F82095_ev (l : List ByteArray) (h : okLen l.length) : ∃ r, Ev (fun k => F82095 k l) r ∧ decide (r.1.1 ≥ (0 : Int)) = !valsOk l := by
 unfold okLen at h
 obtain ⟨r, h1, h2⟩ := find_loop (L := fun k i => F82095c2 k l (l.length : Int) i) (n := l.length) (no := fun i => (((i : Int), ()), ((), (), ()))) (yes := (((-1 : Int), ()), ((), (), ()))) (c := fun i => !decide (((l.getD i ByteArray.empty).size : Int) > 140)) (fun i hi hc => by
   refine Ev.step 1 (fun k => F82095c2_eq k l _ i) ?_
   simp only [Bool.not_eq_false'] at hc
   simp only [lt_true hi, ge0, if_true, Int.toNat_natCast, getD_of hi, Option.bind_some]
   refine Ev.bind (Ev.step 2 (fun k => F81_eq k _) (Ev.now _)) ?_
   simp only [hc, if_true]
   exact Ev.now _) (fun i hi hc r hr => by
   refine Ev.step 1 (fun k => F82095c2_eq k l _ i) ?_
   simp only [Bool.not_eq_true'] at hc
   simp only [lt_true hi, ge0, if_true, Int.toNat_natCast, getD_of hi, Option.bind_some]
   refine Ev.bind (Ev.step 2 (fun k => F81_eq k _) (Ev.now _)) ?_
   simp only [hc, Bool.false_eq_true, if_false]
   rw [wrap_succ (by omega)]
   exact hr) (by
   refine Ev.step 1 (fun k => F82095c2_eq k l _ l.length) ?_
   simp only [lt_false (Nat.le_refl l.length), Bool.false_eq_true, if_false]
   exact Ev.now _)
 refine ⟨r, Ev.step 2 (fun k => F82095_eq k l) h1, ?_⟩
 unfold valsOk
 rcases h2 with ⟨h2, rfl⟩ | ⟨h2, i, _, rfl⟩
 ·rw [h2]; rfl
 ·rw [h2]; simp
theorem F82080_ev (l : List ByteArray) (h : okLen l.length) : Ev (fun k => F82080 k l) ((!valsOk l, ()), ((), (), ())) := by
 obtain ⟨r, h1, h2⟩ := F82095_ev l h
 refine Ev.step 2 (fun k => F82080_eq k l) (Ev.bind h1 ?_)
 simp only [h2]
 exact Ev.now _
theorem F84096_ev (l : List Int) (h : okLen l.length) : ∃ r, Ev (fun k => F84096 k l) r ∧ decide (r.1.1 ≥ (0 : Int)) = !kidsOk l := by
 unfold okLen at h
 obtain ⟨r, h1, h2⟩ := find_loop (L := fun k i => F84096c2 k l (l.length : Int) i) (n := l.length) (no := fun i => (((i : Int), ()), ((), (), ()))) (yes := (((-1 : Int), ()), ((), (), ()))) (c := fun i => inNode (l.getD i 0) 0 18) (fun i hi hc => by
   refine Ev.step 1 (fun k => F84096c2_eq k l _ i) ?_
   simp only [lt_true hi, ge0, if_true, Int.toNat_natCast, getI_of hi, Option.bind_some]
   refine Ev.bind (Ev.step 2 (fun k => F83_eq k _) (Ev.bind (F51_ev _ _ _) (Ev.now _))) ?_
   simp only [hc, Bool.not_false, if_true]
   exact Ev.now _) (fun i hi hc r hr => by
   refine Ev.step 1 (fun k => F84096c2_eq k l _ i) ?_
   simp only [lt_true hi, ge0, if_true, Int.toNat_natCast, getI_of hi, Option.bind_some]
   refine Ev.bind (Ev.step 2 (fun k => F83_eq k _) (Ev.bind (F51_ev _ _ _) (Ev.now _))) ?_
   simp only [hc, Bool.not_true, Bool.false_eq_true, if_false]
   rw [wrap_succ (by omega)]
   exact hr) (by
   refine Ev.step 1 (fun k => F84096c2_eq k l _ l.length) ?_
   simp only [lt_false (Nat.le_refl l.length), Bool.false_eq_true, if_false]
   exact Ev.now _)
 refine ⟨r, Ev.step 2 (fun k => F84096_eq k l) h1, ?_⟩
 unfold kidsOk
 rcases h2 with ⟨h2, rfl⟩ | ⟨h2, i, _, rfl⟩
 ·rw [h2]; rfl
 ·rw [h2]; simp
theorem F84082_ev (l : List Int) (h : okLen l.length) : Ev (fun k => F84082 k l) ((!kidsOk l, ()), ((), (), ())) := by
 obtain ⟨r, h1, h2⟩ := F84096_ev l h
 refine Ev.step 2 (fun k => F84082_eq k l) (Ev.bind h1 ?_)
 simp only [h2]
 exact Ev.now _
theorem F68_ev (n : NodeT) (h : okNode n) : Ev (fun k => F68 k n.1 n.2.1 n.2.2.1 n.2.2.2.1) ((nodeOk n, ()), (((), (), (), (), ()), ())) := by
 obtain ⟨h1, h2, h3⟩ := h
 obtain ⟨leaf, keys, vals, kids, u⟩ := n
 simp only at h1 h2 h3 ⊢
 refine Ev.step 2 (fun k => F68_eq k leaf keys vals kids) ?_
 unfold nodeOk
 cases h4 : decide ((keys.length : Int) > 4) with
 | true =>
  have h5 : decide ((keys.length : Int) ≤ 4) = false := by simp at h4 ⊢; omega
  simp only [h5, Bool.and_false, Bool.false_and, if_true]
  exact Ev.now _
 | false =>
  have h5 : decide ((keys.length : Int) ≤ 4) = true := by simp at h4 ⊢; omega
  simp only [h5, Bool.and_true, Bool.false_eq_true, if_false]
  have hl := h1
  unfold okLen at hl
  have := all_loop (L := fun k i => F68c4 k leaf keys vals kids keys (keys.length : Int) i) (n := keys.length) (no := ((false, ()), (((), (), (), (), ()), ())))
   (yes := ((if leaf = true then valsOk vals && ((vals.length : Int) == (keys.length : Int)) && ((kids.length : Int) == 0) else kidsOk kids && ((vals.length : Int) == 0) && decide ((keys.length : Int) > 0) && ((kids.length : Int) == (keys.length : Int) + 1), ()), (((), (), (), (), ()), ())))
   (c := keyOk keys) ?_ ?_ ?_
  ·unfold keysOk'
   refine (congrArg (Ev _) ?_).mp this
   cases (List.range keys.length).all (keyOk keys) <;> simp
  ·intro i hi hc
   refine Ev.step 1 (fun k => F68c4_eq k leaf keys vals kids keys _ i) ?_
   simp only [lt_true hi, ge0, if_true, Int.toNat_natCast, getD_of hi, Option.bind_some]
   refine Ev.bind (F51_ev _ 1 96) ?_
   simp only [gt0]
   unfold keyOk at hc
   cases hw : inNode ((keys.getD i ByteArray.empty).size : Int) 1 96 with
   | false => exact Ev.now _
   | true =>
    rw [hw] at hc
    simp only [Bool.true_and, Bool.or_eq_false_iff] at hc
    have hp : 0 < i := by
     rcases Nat.eq_zero_or_pos i with h0 | h0
     ·rw [h0] at hc; cases hc.1
     ·exact h0
    have hi2 : i - 1 < keys.length := by omega
    simp only [hc.1, Bool.not_false, Bool.not_true, Bool.false_eq_true, if_false, if_true, pred64 hp (by omega), ge0, Int.toNat_natCast, getD_of hi2, Option.bind_some, hc.2]
    exact Ev.now _
  ·intro i hi hc r hr
   refine Ev.step 1 (fun k => F68c4_eq k leaf keys vals kids keys _ i) ?_
   simp only [lt_true hi, ge0, if_true, Int.toNat_natCast, getD_of hi, Option.bind_some]
   refine Ev.bind (F51_ev _ 1 96) ?_
   unfold keyOk at hc
   simp only [Bool.and_eq_true, Bool.or_eq_true] at hc
   simp only [gt0, hc.1, Bool.not_true, Bool.false_eq_true, if_false]
   rw [wrap_succ (by omega)]
   cases h0 : (i == 0) with
   | true => exact hr
   | false =>
    have hp : 0 < i := by
     rcases Nat.eq_zero_or_pos i with h1 | h1
     ·rw [h1] at h0; cases h0
     ·exact h1
    have hi2 : i - 1 < keys.length := by omega
    rcases hc.2 with hc2 | hc2
    ·rw [h0] at hc2; cases hc2
    ·simp only [Bool.not_false, if_true, pred64 hp (by omega), ge0, Int.toNat_natCast, getD_of hi2, Option.bind_some, hc2, Bool.not_true, Bool.false_eq_true, if_false]
     exact hr
  ·refine Ev.step 1 (fun k => F68c4_eq k leaf keys vals kids keys _ keys.length) ?_
   simp only [lt_false (Nat.le_refl keys.length), Bool.false_eq_true, if_false]
   rw [wrap64 (n := (keys.length : Int) + 1) (by omega) (by omega)]
   cases leaf with
   | true =>
    simp only [if_true]
    cases ((kids.length : Int) == 0) with
    | false => simp only [Bool.and_false]; exact Ev.now _
    | true =>
     cases ((vals.length : Int) == (keys.length : Int)) with
     | false => simp only [Bool.and_false, Bool.false_and]; exact Ev.now _
     | true =>
      simp only [if_true, Bool.and_true]
      refine Ev.bind (F82080_ev vals h2) ?_
      simp only [Bool.not_not]
      exact Ev.now _
   | false =>
    simp only [Bool.false_eq_true, if_false]
    cases ((vals.length : Int) == 0) with
    | false => simp only [Bool.and_false, Bool.false_and]; exact Ev.now _
    | true =>
     cases decide ((keys.length : Int) > 0) with
     | false => simp only [Bool.and_false, Bool.false_and]; exact Ev.now _
     | true =>
      cases ((kids.length : Int) == (keys.length : Int) + 1) with
      | false => simp only [Bool.and_false]; exact Ev.now _
      | true =>
       simp only [if_true, Bool.and_true]
       refine Ev.bind (F84082_ev kids h3) ?_
       simp only [Bool.not_not]
       exact Ev.now _
def nodeZero (n : NodeT) : Bool := !n.1 && ((n.2.1.length : Int) == 0) && ((n.2.2.1.length : Int) == 0) && ((n.2.2.2.1.length : Int) == 0)
theorem F41_ev (n : NodeT) : Ev (fun k => F41 k n.1 n.2.1 n.2.2.1 n.2.2.2.1) ((nodeZero n, ()), (((), (), (), (), ()), ())) := by
 refine Ev.step 2 (fun k => F41_eq k _ _ _ _) ?_
 unfold nodeZero
 cases n.1 with
 | true => exact Ev.now _
 | false =>
  cases ((n.2.1.length : Int) == 0) with
  | false => exact Ev.now _
  | true => cases ((n.2.2.1.length : Int) == 0) with
   | false => exact Ev.now _
   | true => exact Ev.now _
theorem F53_ev (n : NodeT) : Ev (fun k => F53 k n.1 n.2.1 n.2.2.1 n.2.2.2.1) ((nodeZero n, ()), (((), (), (), (), ()), ())) := by
 refine Ev.step 2 (fun k => F53_eq k _ _ _ _) ?_
 unfold nodeZero
 cases n.1 with
 | true => exact Ev.now _
 | false =>
  cases ((n.2.1.length : Int) == 0) with
  | false => exact Ev.now _
  | true => cases ((n.2.2.1.length : Int) == 0) with
   | false => exact Ev.now _
   | true => exact Ev.now _
def inKey (l : List ByteArray) (low high : ByteArray) (i : Nat) : Bool := !(Op.bytesLess (l.getD i ByteArray.empty).toList low.toList) && (high.toList == (⟨#[]⟩ : ByteArray).toList || Op.bytesLess (l.getD i ByteArray.empty).toList high.toList)
def inKeys (l : List ByteArray) (low high : ByteArray) : Bool := (List.range l.length).all (inKey l low high)
theorem F59_ev (l : List ByteArray) (h : okLen l.length) (low high : ByteArray) : Ev (fun k => F59 k l low high) ((inKeys l low high, ()), ((), (), (), ())) := by
 unfold okLen at h
 refine Ev.step 2 (fun k => F59_eq k l low high) ?_
 have := all_loop (L := fun k i => F59c2 k l low high i) (n := l.length) (no := ((false, ()), ((), (), (), ()))) (yes := ((true, ()), ((), (), (), ()))) (c := inKey l low high) ?_ ?_ ?_
 ·unfold inKeys
  refine (congrArg (Ev _) ?_).mp this
  cases (List.range l.length).all (inKey l low high) <;> rfl
 ·intro i hi hc
  refine Ev.step 1 (fun k => F59c2_eq k l low high i) ?_
  simp only [lt_true hi, ge0, if_true, Int.toNat_natCast, getD_of hi, Option.bind_some]
  unfold inKey at hc
  cases h1 : Op.bytesLess (l.getD i ByteArray.empty).toList low.toList with
  | true => exact Ev.now _
  | false =>
   rw [h1] at hc
   simp only [Bool.not_false, Bool.true_and, Bool.or_eq_false_iff] at hc
   simp only [hc.1, hc.2, Bool.not_false, Bool.false_eq_true, if_false, if_true]
   exact Ev.now _
 ·intro i hi hc r hr
  refine Ev.step 1 (fun k => F59c2_eq k l low high i) ?_
  simp only [lt_true hi, ge0, if_true, Int.toNat_natCast, getD_of hi, Option.bind_some]
  unfold inKey at hc
  simp only [Bool.and_eq_true, Bool.not_eq_true', Bool.or_eq_true] at hc
  simp only [hc.1, Bool.false_eq_true, if_false]
  rw [wrap_succ (by omega)]
  cases h2 : (high.toList == (⟨#[]⟩ : ByteArray).toList) with
  | true => exact hr
  | false =>
   rcases hc.2 with hc2 | hc2
   ·rw [h2] at hc2; cases hc2
   ·simp only [Bool.not_false, if_true, hc2, Bool.not_true, Bool.false_eq_true, if_false]
    exact hr
 ·refine Ev.step 1 (fun k => F59c2_eq k l low high l.length) ?_
  simp only [lt_false (Nat.le_refl l.length), Bool.false_eq_true, if_false]
  exact Ev.now _
end Go.Proofs.Ytcolgghllacloaa.R
end

section
namespace Go.Proofs.Ytcolgghllacloaa.R
open Go.Rf
def lo (keys : List ByteArray) (low : ByteArray) (i : Nat) : ByteArray := if i = 0 then low else keys.getD (i - 1) ByteArray.empty
def hi' (keys : List ByteArray) (high : ByteArray) (i : Nat) : ByteArray := if i < keys.length then keys.getD i ByteArray.empty else high
theorem gt0_pos {i : Nat} (h : 0 < i) : decide ((i : Int) > 0) = true := by simp; omega
section
variable {root : Nat} {l : List NodeT} {low high : ByteArray} {leaf : Bool} {keys vals : List ByteArray} {kids : List Int}
theorem spec_step {seen : List Bool} {deep : Int} {i : Nat} (hik : i < kids.length) (hk : kids.length ≤ keys.length + 1) (hl : keys.length ≤ 1048576) {r9 q} (h9 : Ev (fun k => F40 k root l (kids.getD i 0) (lo keys low i) (hi' keys high i) false seen) r9)
  (hq : Ev (fun k => if (decide (r9.1.1 < (0 : Int))) = true then some (((-1 : Int), ()), (((), (), ()), (), (), (), (), r9.2.2.2.2.2.2.1, ())) else if (decide (deep > (0 : Int))) = true then if (r9.1.1 != deep) = true then some (((-1 : Int), ()), (((), (), ()), (), (), (), (), r9.2.2.2.2.2.2.1, ())) else
   F40c11 k low high r9.2.2.2.2.2.2.1 root l leaf keys vals kids r9.1.1 ((i + 1 : Nat) : Int) else F40c11 k low high r9.2.2.2.2.2.2.1 root l leaf keys vals kids r9.1.1 ((i + 1 : Nat) : Int)) q) :
  Ev (fun k => F40c11 k low high seen root l leaf keys vals kids deep (i : Int)) q := by
 have h19 : ∀ from' to', from' = lo keys low i → to' = hi' keys high i → Ev (fun k => F40c19 k low high seen root l leaf keys vals kids deep (i : Int) from' to') q := by
  rintro _ _ rfl rfl
  refine Ev.step 1 (fun k => F40c19_eq k _ _ _ _ _ _ _ _ _ _ _ _ _) ?_
  simp only [ge0, if_true, Int.toNat_natCast, getI_of hik, Option.bind_some]
  refine Ev.bind h9 ?_
  rw [wrap_succ (by omega)]
  exact hq
 have h17 : ∀ from', from' = lo keys low i → Ev (fun k => F40c17 k low high seen root l leaf keys vals kids deep (i : Int) from' high) q := by
  intro from' hf
  refine Ev.step 1 (fun k => F40c17_eq k _ _ _ _ _ _ _ _ _ _ _ _ _) ?_
  by_cases h : i < keys.length
  ·simp only [lt_true h, ge0, if_true, Int.toNat_natCast, getD_of h, Option.bind_some]
   exact h19 _ _ hf (by simp [hi', h])
  ·simp only [lt_false (Nat.le_of_not_lt h), Bool.false_eq_true, if_false]
   exact h19 _ _ hf (by simp [hi', h])
 refine Ev.step 1 (fun k => F40c11_eq k _ _ _ _ _ _ _ _ _ _ _) ?_
 by_cases h0 : 0 < i
 ·have hi2 : i - 1 < keys.length := by omega
  simp only [lt_true hik, if_true, gt0_pos h0, pred64 h0 (by omega), ge0, Int.toNat_natCast, getD_of hi2, Option.bind_some]
  exact h17 _ (by simp [lo, show i ≠ 0 by omega])
 ·have : i = 0 := by omega
  subst this
  simp only [lt_true hik, if_true, gt0, beq_self_eq_true, Bool.not_true, Bool.false_eq_true, if_false]
  exact h17 _ (by simp [lo])
theorem impl_step {seen : List Bool} {D δ : Int} {i : Nat} (hik : i < kids.length) (hk : kids.length ≤ keys.length + 1) (hl : keys.length ≤ 1048576) (hδ : 0 ≤ δ) (hδ' : δ ≤ 1000) {r10 q} (h10 : Ev (fun k => F52 k root l seen D (kids.getD i 0) (δ + 1) (lo keys low i) (hi' keys high i)) r10)
  (hq : Ev (fun k => if (!r10.1.1) = true then some ((false, ()), ((r10.2.1.1, r10.2.1.2.1, r10.2.1.2.2.1, r10.2.1.2.2.2.1, ()), (), (), (), (), ())) else F52c16 k r10.2.1.1 r10.2.1.2.1 r10.2.1.2.2.1 r10.2.1.2.2.2.1 δ low high leaf keys vals kids kids (kids.length : Int) ((i + 1 : Nat) : Int)) q) :
  Ev (fun k => F52c16 k root l seen D δ low high leaf keys vals kids kids (kids.length : Int) (i : Int)) q := by
 have h23 : ∀ from' to', from' = lo keys low i → to' = hi' keys high i → Ev (fun k => F52c23 k root l seen D δ low high leaf keys vals kids (kids.getD i 0) from' to' kids (kids.length : Int) (i : Int)) q := by
  rintro _ _ rfl rfl
  refine Ev.step 1 (fun k => F52c23_eq k _ _ _ _ _ _ _ _ _ _ _ _ _ _ _ _ _) ?_
  rw [wrap64 (n := δ + 1) (by omega) (by omega), wrap_succ (by omega)]
  exact Ev.bind h10 hq
 have h21 : ∀ from', from' = lo keys low i → Ev (fun k => F52c21 k root l seen D δ low high leaf keys vals kids (i : Int) (kids.getD i 0) from' high kids (kids.length : Int) (i : Int)) q := by
  intro from' hf
  refine Ev.step 1 (fun k => F52c21_eq k _ _ _ _ _ _ _ _ _ _ _ _ _ _ _ _ _ _) ?_
  by_cases h : i < keys.length
  ·simp only [lt_true h, ge0, if_true, Int.toNat_natCast, getD_of h, Option.bind_some]
   exact h23 _ _ hf (by simp [hi', h])
  ·simp only [lt_false (Nat.le_of_not_lt h), Bool.false_eq_true, if_false]
   exact h23 _ _ hf (by simp [hi', h])
 refine Ev.step 1 (fun k => F52c16_eq k _ _ _ _ _ _ _ _ _ _ _ _ _ _) ?_
 by_cases h0 : 0 < i
 ·have hi2 : i - 1 < keys.length := by omega
  simp only [lt_true hik, if_true, gt0_pos h0, pred64 h0 (by omega), ge0, Int.toNat_natCast, getI_of hik, getD_of hi2, Option.bind_some]
  exact h21 _ (by simp [lo, show i ≠ 0 by omega])
 ·have : i = 0 := by omega
  subst this
  simp only [lt_true hik, if_true, ge0, Int.toNat_natCast, getI_of hik, Option.bind_some, gt0, beq_self_eq_true, Bool.not_true, Bool.false_eq_true, if_false]
  exact h21 _ (by simp [lo])
end
def cost : Bool → Nat → Nat
 | _, 0 => 0
 | r, d + 1 => 1 + (if r = true then 2 else 3) * cost false d
theorem cost_one (r : Bool) : cost r 1 = 1 := by cases r <;> rfl
theorem cost_step {isr : Bool} {K dn a b c s : Nat} (h : isr = true ∨ 2 ≤ K) (hK : 1 ≤ K) (h1 : a + K * cost false dn ≤ b) (h2 : b + cost false dn ≤ c) (h3 : c + 1 = s) : a + cost isr (dn + 1) ≤ s := by
 show a + (1 + (if isr = true then 2 else 3) * cost false dn) ≤ s
 rcases h with h | h
 ·subst h
  have := Nat.mul_le_mul_right (cost false dn) hK
  simp only [if_true]
  omega
 ·have := Nat.mul_le_mul_right (cost false dn) h
  split <;> omega
def Gd (l : List NodeT) : Nat → Nat → ByteArray → ByteArray → Bool → Prop
 | 0, _, _, _, _ => False
 | d + 1, at', low, high, isr => ∃ n : NodeT, l[at']? = some n ∧ nodeOk n = true ∧ inKeys n.2.1 low high = true ∧ (isr = true ∨ 2 ≤ n.2.1.length) ∧
   ((n.1 = true ∧ d = 0) ∨ (n.1 = false ∧ n.2.2.2.1.length = n.2.1.length + 1 ∧ ∀ i, i < n.2.2.2.1.length → ∃ kid : Nat, n.2.2.2.1.getD i 0 = (kid : Int) ∧ kid < 19 ∧ Gd l d kid (lo n.2.1 low i) (hi' n.2.1 high i) false))
theorem Gd_succ {l : List NodeT} {d at' : Nat} {low high : ByteArray} {isr : Bool} : Gd l (d + 1) at' low high isr ↔ ∃ n : NodeT, l[at']? = some n ∧ nodeOk n = true ∧ inKeys n.2.1 low high = true ∧ (isr = true ∨ 2 ≤ n.2.1.length) ∧
   ((n.1 = true ∧ d = 0) ∨ (n.1 = false ∧ n.2.2.2.1.length = n.2.1.length + 1 ∧ ∀ i, i < n.2.2.2.1.length → ∃ kid : Nat, n.2.2.2.1.getD i 0 = (kid : Int) ∧ kid < 19 ∧ Gd l d kid (lo n.2.1 low i) (hi' n.2.1 high i) false)) := Iff.rfl
def WG (l : List NodeT) (d : Int) (at' : Nat) (low high : ByteArray) (isr : Bool) (c c' : Nat) : Prop := 1 ≤ d → Gd l d.toNat at' low high isr ∧ c' + cost isr d.toNat ≤ c
theorem WG_neg {l : List NodeT} {at' : Nat} {low high : ByteArray} {isr : Bool} {c c' : Nat} : WG l (-1) at' low high isr c c' := fun h => absurd h (by omega)
def Walks (root : Nat) (l : List NodeT) (c : Nat) : Prop := ∀ (seen : List Bool) (at' : Nat) (low high : ByteArray) (isr : Bool), seen.length = 19 → seen.count false ≤ c → at' < 19 → (isr = true ∧ at' = root ∨ isr = false ∧ seen.getD root false = true) →
 ∃ (d : Int) (seen' : List Bool), seen'.length = 19 ∧ (seen.getD root false = true → seen'.getD root false = true) ∧ seen'.count false ≤ seen.count false ∧ (d = -1 ∨ (1 ≤ d ∧ d ≤ (seen.count false : Int))) ∧ WG l d at' low high isr (seen.count false) (seen'.count false) ∧
  Ev (fun k => F40 k root l at' low high isr seen) ((d, ()), (((), (), ()), (), (), (), (), seen', ())) ∧
  ∀ (D δ : Int), 0 ≤ D → D ≤ 1000 → 1 ≤ δ → δ + seen.count false ≤ 1000 → ∃ out, Ev (fun k => F52 k root l seen D at' δ low high) out ∧
   ((1 ≤ d ∧ (D = 0 ∨ D = δ + d - 1) ∧ out = ((true, ()), (((root : Int), l, seen', δ + d - 1, ()), (), (), (), (), ()))) ∨ (¬ (1 ≤ d ∧ (D = 0 ∨ D = δ + d - 1)) ∧ out.1.1 = false))
section
variable {root : Nat} {l : List NodeT} {low high : ByteArray} {leaf : Bool} {keys vals : List ByteArray} {kids : List Int} {c : Nat}
theorem kids_loop (hW : Walks root l c) (hlen : kids.length = keys.length + 1) (hl : keys.length ≤ 1048576) (hr : ∀ i, i < kids.length → 0 ≤ kids.getD i 0 ∧ kids.getD i 0 ≤ 18) :
  ∀ (m i : Nat) (seen : List Bool) (deep : Int), i + m = kids.length → seen.length = 19 → seen.count false ≤ c → seen.getD root false = true → 1 ≤ deep → deep ≤ 500 →
  ∃ (d : Int) (seen' : List Bool), seen'.length = 19 ∧ seen'.getD root false = true ∧ seen'.count false ≤ seen.count false ∧ (d = -1 ∨ d = deep + 1) ∧ (d = deep + 1 → (∀ j, i ≤ j → j < kids.length → ∃ kid : Nat, kids.getD j 0 = (kid : Int) ∧ kid < 19 ∧ Gd l deep.toNat kid (lo keys low j) (hi' keys high j) false) ∧ seen'.count false + m * cost false deep.toNat ≤ seen.count false) ∧
   Ev (fun k => F40c11 k low high seen root l leaf keys vals kids deep (i : Int)) ((d, ()), (((), (), ()), (), (), (), (), seen', ())) ∧
   ∀ δ : Int, 1 ≤ δ → δ + 1 + seen.count false ≤ 1000 → δ + deep ≤ 1000 → ∃ out, Ev (fun k => F52c16 k root l seen (δ + deep) δ low high leaf keys vals kids kids (kids.length : Int) (i : Int)) out ∧
    ((d = deep + 1 ∧ out = ((true, ()), (((root : Int), l, seen', δ + deep, ()), (), (), (), (), ()))) ∨ (d = -1 ∧ out.1.1 = false)) := by
 intro m
 induction m with
 | zero =>
  intro i seen deep hi hs hc hroot hd hd'
  refine ⟨deep + 1, seen, hs, hroot, Nat.le_refl _, .inr rfl, fun _ => ⟨fun j h1 h2 => by omega, by omega⟩, ?_, fun δ h1 h2 h3 => ⟨_, ?_, .inl ⟨rfl, rfl⟩⟩⟩
  ·refine Ev.step 1 (fun k => F40c11_eq k _ _ _ _ _ _ _ _ _ _ _) ?_
   simp only [lt_false (show kids.length ≤ i by omega), Bool.false_eq_true, if_false, wrap64 (n := deep + 1) (by omega) (by omega)]
   exact Ev.now _
  ·refine Ev.step 1 (fun k => F52c16_eq k _ _ _ _ _ _ _ _ _ _ _ _ _ _) ?_
   simp only [lt_false (show kids.length ≤ i by omega), Bool.false_eq_true, if_false]
   exact Ev.now _
 | succ m ih =>
  intro i seen deep hi hs hc hroot hd hd'
  have hik : i < kids.length := by omega
  obtain ⟨hk0, hk1⟩ := hr i hik
  obtain ⟨kid, hkid⟩ : ∃ kid : Nat, kids.getD i 0 = (kid : Int) := ⟨(kids.getD i 0).toNat, by omega⟩
  obtain ⟨d1, s1, a1, a2, a3, a4, ag, a5, a6⟩ := hW seen kid (lo keys low i) (hi' keys high i) false hs hc (by omega) (.inr ⟨rfl, hroot⟩)
  rw [← hkid] at a5 a6
  have step1 := fun {q} => spec_step (q := q) (root := root) (l := l) (low := low) (high := high) (leaf := leaf) (vals := vals) (deep := deep) hik (by omega) hl a5
  have dpos : decide (deep > 0) = true := by simp; omega
  rcases a4 with a4 | ⟨a4, a4'⟩
  ·subst a4
   refine ⟨-1, s1, a1, a2 hroot, a3, .inl rfl, fun h => absurd h (by omega), step1 ?_, fun δ h1 h2 h3 => ?_⟩
   ·exact Ev.now _
   ·obtain ⟨out, b1, b2⟩ := a6 (δ + deep) (δ + 1) (by omega) (by omega) (by omega) (by omega)
    rcases b2 with ⟨b2, _⟩ | ⟨_, b2⟩
    ·omega
    ·refine ⟨((false, ()), ((out.2.1.1, out.2.1.2.1, out.2.1.2.2.1, out.2.1.2.2.2.1, ()), (), (), (), (), ())), impl_step (r10 := out) hik (by omega) hl (by omega) (by omega) b1 ?_, .inr ⟨rfl, rfl⟩⟩
     simp only [b2, Bool.not_false, if_true]
     exact Ev.now _
  ·have hneg : decide (d1 < 0) = false := by simp; omega
   by_cases hdd : d1 = deep
   ·subst hdd
    obtain ⟨d2, s2, c1, c2, c3, c4, cg, c5, c6⟩ := ih (i + 1) s1 d1 (by omega) a1 (by omega) (a2 hroot) hd hd'
    refine ⟨d2, s2, c1, c2, by omega, c4, fun h => by
     obtain ⟨g1, g2⟩ := cg h
     obtain ⟨g3, g4⟩ := ag (by omega)
     refine ⟨fun j hj1 hj2 => ?_, by rw [Nat.add_mul, Nat.one_mul]; omega⟩
     rcases Nat.eq_or_lt_of_le hj1 with rfl | hj
     ·exact ⟨kid, hkid, by omega, g3⟩
     ·exact g1 j hj hj2, step1 ?_, fun δ h1 h2 h3 => ?_⟩
    ·simp only [hneg, dpos, bne_self_eq_false, Bool.false_eq_true, if_false, if_true]
     exact c5
    ·obtain ⟨out, b1, b2⟩ := a6 (δ + d1) (δ + 1) (by omega) (by omega) (by omega) (by omega)
     obtain ⟨out2, e1, e2⟩ := c6 δ h1 (by omega) h3
     rcases b2 with ⟨_, _, b2⟩ | ⟨b2, _⟩
     ·subst b2
      refine ⟨out2, impl_step hik (by omega) hl (by omega) (by omega) b1 ?_, e2⟩
      simp only [Bool.not_true, Bool.false_eq_true, if_false]
      have : δ + 1 + d1 - 1 = δ + d1 := by omega
      rw [this]
      exact e1
     ·exact absurd ⟨a4, .inr (by omega)⟩ b2
   ·have hne : (d1 != deep) = true := by simp [hdd]
    refine ⟨-1, s1, a1, a2 hroot, a3, .inl rfl, fun h => absurd h (by omega), step1 ?_, fun δ h1 h2 h3 => ?_⟩
    ·simp only [hneg, dpos, hne, Bool.false_eq_true, if_false, if_true]
     exact Ev.now _
    ·obtain ⟨out, b1, b2⟩ := a6 (δ + deep) (δ + 1) (by omega) (by omega) (by omega) (by omega)
     rcases b2 with ⟨_, b2, _⟩ | ⟨_, b2⟩
     ·omega
     ·refine ⟨((false, ()), ((out.2.1.1, out.2.1.2.1, out.2.1.2.2.1, out.2.1.2.2.2.1, ()), (), (), (), (), ())), impl_step (r10 := out) hik (by omega) hl (by omega) (by omega) b1 ?_, .inr ⟨rfl, rfl⟩⟩
      simp only [b2, Bool.not_false, if_true]
      exact Ev.now _
end
theorem getB_of {l : List Bool} {i : Nat} (h : i < l.length) : l[i]? = some (l.getD i false) := by
 rw [List.getD_eq_getElem?_getD, List.getElem?_eq_getElem h]
 rfl
theorem getN_of {l : List NodeT} {i : Nat} (h : i < l.length) : l[i]? = some l[i] := List.getElem?_eq_getElem h
theorem count_mark {l : List Bool} {i : Nat} (h : i < l.length) (hf : l.getD i false = false) : (l.set i true).count false + 1 = l.count false := by
 induction l generalizing i with
 | nil => simp at h
 | cons a l ih =>
  cases i with
  | zero =>
   simp at hf
   subst hf
   simp
  | succ i =>
   have := ih (i := i) (by simpa using h) (by simpa using hf)
   simp only [List.set_cons_succ, List.count_cons]
   omega
theorem marked {l : List Bool} {i : Nat} (h : i < l.length) : (l.set i true).getD i false = true := by
 simp [List.getD_eq_getElem?_getD, List.getElem?_set_self h]
theorem mark_keeps {l : List Bool} {i j : Nat} (h : l.getD j false = true) : (l.set i true).getD j false = true := by
 by_cases e : i = j
 ·subst e
  have : i < l.length := by
   rcases Nat.lt_or_ge i l.length with h1 | h1
   ·exact h1
   ·simp [List.getD_eq_getElem?_getD, List.getElem?_eq_none h1] at h
  exact marked this
 ·rw [List.getD_eq_getElem?_getD, List.getElem?_set_ne e, ← List.getD_eq_getElem?_getD]
  exact h
section
variable {root : Nat} {l : List NodeT}
theorem F52c6_ev {met : List Bool} {D δ : Int} {low high : ByteArray} {leaf : Bool} {keys vals : List ByteArray} {kids : List Int} (hl : keys.length ≤ 1048576) {q}
  (hyes : inKeys keys low high = true → Ev (fun k => if leaf = true then if (D == (0 : Int)) = true then F52c14 k root l met δ δ else F52c14 k root l met D δ else F52c16 k root l met D δ low high leaf keys vals kids kids (kids.length : Int) (0 : Int)) q) :
  Ev (fun k => F52c6 k root l met D δ low high leaf keys vals kids keys (keys.length : Int) (0 : Int)) (if inKeys keys low high = true then q else ((false, ()), (((root : Int), l, met, D, ()), (), (), (), (), ()))) := by
 refine all_loop' (L := fun k i => F52c6 k root l met D δ low high leaf keys vals kids keys (keys.length : Int) i) ?_ ?_ ?_
 ·intro i hi hc
  refine Ev.step 1 (fun k => F52c6_eq k _ _ _ _ _ _ _ _ _ _ _ _ _ _) ?_
  simp only [lt_true hi, ge0, if_true, Int.toNat_natCast, getD_of hi, Option.bind_some]
  unfold inKey at hc
  cases h1 : Op.bytesLess (keys.getD i ByteArray.empty).toList low.toList with
  | true => exact Ev.now _
  | false =>
   rw [h1] at hc
   simp only [Bool.not_false, Bool.true_and, Bool.or_eq_false_iff] at hc
   simp only [hc.1, hc.2, Bool.not_false, Bool.false_eq_true, if_false, if_true]
   exact Ev.now _
 ·intro i hi hc r hr
  refine Ev.step 1 (fun k => F52c6_eq k _ _ _ _ _ _ _ _ _ _ _ _ _ _) ?_
  simp only [lt_true hi, ge0, if_true, Int.toNat_natCast, getD_of hi, Option.bind_some]
  unfold inKey at hc
  simp only [Bool.and_eq_true, Bool.not_eq_true', Bool.or_eq_true] at hc
  simp only [hc.1, Bool.false_eq_true, if_false]
  rw [wrap_succ (by omega)]
  cases h2 : (high.toList == (⟨#[]⟩ : ByteArray).toList) with
  | true => exact hr
  | false =>
   rcases hc.2 with hc2 | hc2
   ·rw [h2] at hc2; cases hc2
   ·simp only [Bool.not_false, if_true, hc2, Bool.not_true, Bool.false_eq_true, if_false]
    exact hr
 ·intro hin
  refine Ev.step 1 (fun k => F52c6_eq k _ _ _ _ _ _ _ _ _ _ _ _ _ _) ?_
  simp only [lt_false (Nat.le_refl keys.length), Bool.false_eq_true, if_false]
  exact hyes hin
theorem walks (hn : l.length = 19) (hok : ∀ n, n ∈ l → okNode n) : ∀ c, Walks root l c := by
 intro c
 induction c with
 | zero =>
  intro seen at' low high isr hs hc hat hr
  have hseen : seen.getD at' false = true := by
   cases h : seen.getD at' false with
   | true => rfl
   | false => have := count_mark (by omega) h; omega
  refine ⟨-1, seen, hs, id, Nat.le_refl _, .inl rfl, WG_neg, ?_, fun D δ _ _ _ _ => ⟨((false, ()), (((root : Int), l, seen, D, ()), (), (), (), (), ())), ?_, .inr ⟨by omega, rfl⟩⟩⟩
  ·refine Ev.step 2 (fun k => F40_eq k _ _ _ _ _ _ _) ?_
   simp only [ge0, lt_true (show at' < seen.length by omega), Bool.and_self, if_true, Int.toNat_natCast, getB_of (show at' < seen.length by omega), Option.bind_some, hseen]
   exact Ev.now _
  ·refine Ev.step 2 (fun k => F52_eq k _ _ _ _ _ _ _ _) ?_
   simp only [ge0, lt_true (show at' < seen.length by omega), Bool.and_self, if_true, Int.toNat_natCast, getN_of (show at' < l.length by omega), getB_of (show at' < seen.length by omega), Option.bind_some, hseen]
   exact Ev.now _
 | succ c ih =>
  intro seen at' low high isr hs hc hat hr
  have hlt : at' < seen.length := by omega
  have hltl : at' < l.length := by omega
  cases hseen : seen.getD at' false with
  | true =>
   refine ⟨-1, seen, hs, id, Nat.le_refl _, .inl rfl, WG_neg, ?_, fun D δ _ _ _ _ => ⟨((false, ()), (((root : Int), l, seen, D, ()), (), (), (), (), ())), ?_, .inr ⟨by omega, rfl⟩⟩⟩
   ·refine Ev.step 2 (fun k => F40_eq k _ _ _ _ _ _ _) ?_
    simp only [ge0, lt_true hlt, Bool.and_self, if_true, Int.toNat_natCast, getB_of hlt, Option.bind_some, hseen]
    exact Ev.now _
   ·refine Ev.step 2 (fun k => F52_eq k _ _ _ _ _ _ _ _) ?_
    simp only [ge0, lt_true hlt, Bool.and_self, if_true, Int.toNat_natCast, getN_of hltl, getB_of hlt, Option.bind_some, hseen]
    exact Ev.now _
  | false =>
   have hcount := count_mark hlt hseen
   have hs1 : (seen.set at' true).length = 19 := by simpa using hs
   have hroot : seen.getD root false = true → (seen.set at' true).getD root false = true := fun h => mark_keeps h
   have hbne : ((at' : Int) != (root : Int)) = !isr := by
    rcases hr with ⟨h1, h2⟩ | ⟨h1, h2⟩
    ·rw [h1, h2]; simp
    ·have : at' ≠ root := fun e => by rw [e, h2] at hseen; cases hseen
     rw [h1]
     simp
     omega
   have hroot1 : (seen.set at' true).getD root false = true := by
    rcases hr with ⟨_, h2⟩ | ⟨_, h2⟩
    ·rw [← h2]; exact marked hlt
    ·exact mark_keeps h2
   obtain ⟨n, hnn⟩ : ∃ n, l[at'] = n := ⟨_, rfl⟩
   have hokn : okNode n := hnn ▸ hok _ (List.getElem_mem hltl)
   have specS : ∀ {q}, Ev (fun k => (F58 k n.1 n.2.1 n.2.2.1 n.2.2.2.1).bind fun r4 => if (!r4.1.1) = true then some (((-1 : Int), ()), (((), (), ()), (), (), (), (), seen.set at' true, ())) else (F59 k n.2.1 low high).bind fun r5 => if (!r5.1.1) = true then some (((-1 : Int), ()), (((), (), ()), (), (), (), (), seen.set at' true, ())) else
     if (!isr) = true then if (decide ((n.2.1.length : Int) < (2 : Int))) = true then some (((-1 : Int), ()), (((), (), ()), (), (), (), (), seen.set at' true, ())) else if n.1 = true then some (((1 : Int), ()), (((), (), ()), (), (), (), (), seen.set at' true, ())) else F40c11 k low high (seen.set at' true) root l n.1 n.2.1 n.2.2.1 n.2.2.2.1 (0 : Int) (0 : Int)
     else if n.1 = true then some (((1 : Int), ()), (((), (), ()), (), (), (), (), seen.set at' true, ())) else F40c11 k low high (seen.set at' true) root l n.1 n.2.1 n.2.2.1 n.2.2.2.1 (0 : Int) (0 : Int)) q → Ev (fun k => F40 k root l at' low high isr seen) q := by
    intro q hq
    refine Ev.step 2 (fun k => F40_eq k _ _ _ _ _ _ _) ?_
    simp only [ge0, lt_true hlt, Bool.and_self, if_true, Int.toNat_natCast, getB_of hlt, getN_of hltl, hnn, Option.bind_some, hseen, Bool.false_eq_true, if_false]
    exact hq
   have implS : ∀ {D δ q}, Ev (fun k => (F68 k n.1 n.2.1 n.2.2.1 n.2.2.2.1).bind fun r3 => if (!r3.1.1) = true then some ((false, ()), (((root : Int), l, seen, D, ()), (), (), (), (), ())) else
     if (!isr) = true then if (decide ((n.2.1.length : Int) < (2 : Int))) = true then some ((false, ()), (((root : Int), l, seen, D, ()), (), (), (), (), ())) else F52c6 k root l (seen.set at' true) D δ low high n.1 n.2.1 n.2.2.1 n.2.2.2.1 n.2.1 (n.2.1.length : Int) (0 : Int)
     else F52c6 k root l (seen.set at' true) D δ low high n.1 n.2.1 n.2.2.1 n.2.2.2.1 n.2.1 (n.2.1.length : Int) (0 : Int)) q → Ev (fun k => F52 k root l seen D at' δ low high) q := by
    intro D δ q hq
    refine Ev.step 2 (fun k => F52_eq k _ _ _ _ _ _ _ _) ?_
    simp only [ge0, lt_true hlt, Bool.and_self, if_true, Int.toNat_natCast, getB_of hlt, getN_of hltl, hnn, Option.bind_some, hseen, Bool.false_eq_true, if_false, hbne]
    exact hq
   have fail : ∀ {P : Int → List Bool → Prop}, P (-1) (seen.set at' true) → ∃ (d : Int) (seen' : List Bool), seen'.length = 19 ∧ (seen.getD root false = true → seen'.getD root false = true) ∧ seen'.count false ≤ seen.count false ∧ (d = -1 ∨ (1 ≤ d ∧ d ≤ (seen.count false : Int))) ∧ WG l d at' low high isr (seen.count false) (seen'.count false) ∧ P d seen' :=
    fun h => ⟨-1, _, hs1, hroot, by omega, .inl rfl, WG_neg, h⟩
   cases hno : nodeOk n with
   | false =>
    refine fail ⟨specS (Ev.bind (F58_ev n hokn) ?_), fun D δ _ _ _ _ => ⟨((false, ()), (((root : Int), l, seen, D, ()), (), (), (), (), ())), implS (Ev.bind (F68_ev n hokn) ?_), .inr ⟨by omega, rfl⟩⟩⟩
    ·simp only [hno, Bool.not_false, if_true]
     exact Ev.now _
    ·simp only [hno, Bool.not_false, if_true]
     exact Ev.now _
   | true =>
    have hkl : n.2.1.length ≤ 1048576 := hokn.1
    cases hin : inKeys n.2.1 low high with
    | false =>
     refine fail ⟨specS (Ev.bind (F58_ev n hokn) ?_), fun D δ _ _ _ _ => ?_⟩
     ·simp only [hno, Bool.not_true, Bool.false_eq_true, if_false]
      refine Ev.bind (F59_ev n.2.1 hokn.1 low high) ?_
      simp only [hin, Bool.not_false, if_true]
      exact Ev.now _
     ·have h6 := F52c6_ev (root := root) (l := l) (met := seen.set at' true) (D := D) (δ := δ) (low := low) (high := high) (leaf := n.1) (keys := n.2.1) (vals := n.2.2.1) (kids := n.2.2.2.1) hkl (q := ((false, ()), (((root : Int), l, seen.set at' true, D, ()), (), (), (), (), ()))) (fun h => by rw [hin] at h; cases h)
      rw [hin] at h6
      simp only [Bool.false_eq_true, if_false] at h6
      by_cases hsh : (!isr) = true ∧ decide ((n.2.1.length : Int) < 2) = true
      ·refine ⟨((false, ()), (((root : Int), l, seen, D, ()), (), (), (), (), ())), implS (Ev.bind (F68_ev n hokn) ?_), .inr ⟨by omega, rfl⟩⟩
       ·simp only [hno, Bool.not_true, Bool.false_eq_true, if_false, hsh.1, hsh.2, if_true]
        exact Ev.now _
      ·refine ⟨((false, ()), (((root : Int), l, seen.set at' true, D, ()), (), (), (), (), ())), implS (Ev.bind (F68_ev n hokn) ?_), .inr ⟨by omega, rfl⟩⟩
       ·simp only [hno, Bool.not_true, Bool.false_eq_true, if_false]
        cases h1 : (!isr) with
        | false => exact h6
        | true =>
         have h2 : decide ((n.2.1.length : Int) < 2) = false := by
          cases h3 : decide ((n.2.1.length : Int) < 2) with
          | false => rfl
          | true => exact absurd ⟨h1, h3⟩ hsh
         simp only [if_true, h2, Bool.false_eq_true, if_false]
         exact h6
    | true =>
     by_cases hsh : (!isr) = true ∧ decide ((n.2.1.length : Int) < 2) = true
     ·refine fail ⟨specS (Ev.bind (F58_ev n hokn) ?_), fun D δ _ _ _ _ => ⟨((false, ()), (((root : Int), l, seen, D, ()), (), (), (), (), ())), implS (Ev.bind (F68_ev n hokn) ?_), .inr ⟨by omega, rfl⟩⟩⟩
      ·simp only [hno, Bool.not_true, Bool.false_eq_true, if_false]
       refine Ev.bind (F59_ev n.2.1 hokn.1 low high) ?_
       simp only [hin, Bool.not_true, Bool.false_eq_true, if_false, hsh.1, hsh.2, if_true]
       exact Ev.now _
      ·simp only [hno, Bool.not_true, Bool.false_eq_true, if_false, hsh.1, hsh.2, if_true]
       exact Ev.now _
     ·have hsh' : isr = true ∨ 2 ≤ n.2.1.length := by
       rcases Nat.lt_or_ge n.2.1.length 2 with h2 | h2
       ·refine .inl ?_
        cases h1 : isr with
        | true => rfl
        | false => exact absurd ⟨by rw [h1]; rfl, by simp; omega⟩ hsh
       ·exact .inr h2
      have spec2 : ∀ {q}, Ev (fun k => if n.1 = true then some (((1 : Int), ()), (((), (), ()), (), (), (), (), seen.set at' true, ())) else F40c11 k low high (seen.set at' true) root l n.1 n.2.1 n.2.2.1 n.2.2.2.1 (0 : Int) (0 : Int)) q → Ev (fun k => F40 k root l at' low high isr seen) q := by
       intro q hq
       refine specS (Ev.bind (F58_ev n hokn) ?_)
       simp only [hno, Bool.not_true, Bool.false_eq_true, if_false]
       refine Ev.bind (F59_ev n.2.1 hokn.1 low high) ?_
       simp only [hin, Bool.not_true, Bool.false_eq_true, if_false]
       cases h1 : (!isr) with
       | false => exact hq
       | true =>
        have h2 : decide ((n.2.1.length : Int) < 2) = false := by
         cases h3 : decide ((n.2.1.length : Int) < 2) with
         | false => rfl
         | true => exact absurd ⟨h1, h3⟩ hsh
        simp only [if_true, h2, Bool.false_eq_true, if_false]
        exact hq
      have impl2 : ∀ {D δ q}, Ev (fun k => if n.1 = true then if (D == (0 : Int)) = true then F52c14 k root l (seen.set at' true) δ δ else F52c14 k root l (seen.set at' true) D δ else F52c16 k root l (seen.set at' true) D δ low high n.1 n.2.1 n.2.2.1 n.2.2.2.1 n.2.2.2.1 (n.2.2.2.1.length : Int) (0 : Int)) q → Ev (fun k => F52 k root l seen D at' δ low high) q := by
       intro D δ q hq
       have h6 := F52c6_ev (root := root) (l := l) (met := seen.set at' true) (D := D) (δ := δ) (low := low) (high := high) (leaf := n.1) (keys := n.2.1) (vals := n.2.2.1) (kids := n.2.2.2.1) hkl (fun _ => hq)
       rw [hin] at h6
       simp only [if_true] at h6
       refine implS (Ev.bind (F68_ev n hokn) ?_)
       simp only [hno, Bool.not_true, Bool.false_eq_true, if_false]
       cases h1 : (!isr) with
       | false => exact h6
       | true =>
        have h2 : decide ((n.2.1.length : Int) < 2) = false := by
         cases h3 : decide ((n.2.1.length : Int) < 2) with
         | false => rfl
         | true => exact absurd ⟨h1, h3⟩ hsh
        simp only [if_true, h2, Bool.false_eq_true, if_false]
        exact h6
      cases hleaf : n.1 with
      | true =>
       simp only [hleaf, if_true] at spec2 impl2
       refine ⟨1, _, hs1, hroot, by omega, .inr ⟨by omega, by omega⟩, fun _ => by
        show Gd l (0 + 1) at' low high isr ∧ _ + cost isr 1 ≤ _
        rw [cost_one]
        exact ⟨Gd_succ.2 ⟨n, hnn ▸ List.getElem?_eq_getElem hltl, hno, hin, hsh', .inl ⟨hleaf, rfl⟩⟩, by omega⟩, spec2 (Ev.now _), fun D δ h1 h2 h3 h4 => ?_⟩
       cases hD : (D == (0 : Int)) with
       | true =>
        have hD' : D = 0 := by simpa using hD
        refine ⟨((true, ()), (((root : Int), l, seen.set at' true, δ + 1 - 1, ()), (), (), (), (), ())), impl2 ?_, .inl ⟨by omega, .inl hD', rfl⟩⟩
        simp only [hD, if_true]
        have e : δ + 1 - 1 = δ := by omega
        rw [e]
        refine Ev.step 1 (fun k => F52c14_eq k _ _ _ _ _) ?_
        simp only [beq_self_eq_true]
        exact Ev.now _
       | false =>
        have hD' : D ≠ 0 := by simpa using hD
        by_cases hDδ : D = δ
        ·subst hDδ
         refine ⟨((true, ()), (((root : Int), l, seen.set at' true, D + 1 - 1, ()), (), (), (), (), ())), impl2 ?_, .inl ⟨by omega, .inr (by omega), rfl⟩⟩
         simp only [hD, Bool.false_eq_true, if_false]
         have e : D + 1 - 1 = D := by omega
         rw [e]
         refine Ev.step 1 (fun k => F52c14_eq k _ _ _ _ _) ?_
         simp only [beq_self_eq_true]
         exact Ev.now _
        ·refine ⟨((D == δ, ()), (((root : Int), l, seen.set at' true, D, ()), (), (), (), (), ())), impl2 ?_, .inr ⟨by omega, by simpa using hDδ⟩⟩
         simp only [hD, Bool.false_eq_true, if_false]
         exact Ev.step 1 (fun k => F52c14_eq k _ _ _ _ _) (Ev.now _)
      | false =>
       simp only [hleaf, Bool.false_eq_true, if_false] at spec2 impl2
       have hk := hno
       unfold nodeOk at hk
       simp only [hleaf, Bool.false_eq_true, if_false, Bool.and_eq_true, beq_iff_eq, decide_eq_true_eq] at hk
       obtain ⟨_, ⟨⟨hk1, _⟩, hk2⟩, hk3⟩ := hk
       have hlen : n.2.2.2.1.length = n.2.1.length + 1 := by omega
       have hrng : ∀ i, i < n.2.2.2.1.length → 0 ≤ n.2.2.2.1.getD i 0 ∧ n.2.2.2.1.getD i 0 ≤ 18 := by
        intro i hi
        have := List.all_eq_true.1 hk1 i (by simpa using hi)
        unfold inNode at this
        simp only [Bool.and_eq_true, decide_eq_true_eq] at this
        exact ⟨this.1, this.2⟩
       have h0k : 0 < n.2.2.2.1.length := by omega
       obtain ⟨hr0, hr1⟩ := hrng 0 h0k
       obtain ⟨kid, hkid⟩ : ∃ kid : Nat, n.2.2.2.1.getD 0 0 = (kid : Int) := ⟨(n.2.2.2.1.getD 0 0).toNat, by omega⟩
       obtain ⟨d1, s1, a1, a2, a3, a4, ag, a5, a6⟩ := ih (seen.set at' true) kid (lo n.2.1 low 0) (hi' n.2.1 high 0) false hs1 (by omega) (by omega) (.inr ⟨rfl, hroot1⟩)
       rw [← hkid] at a5 a6
       have st := fun {q} => spec_step (q := q) (root := root) (l := l) (low := low) (high := high) (leaf := false) (vals := n.2.2.1) (deep := 0) h0k (by omega) hkl a5
       rcases a4 with a4 | ⟨a4, a4'⟩
       ·subst a4
        refine ⟨-1, s1, a1, fun _ => a2 hroot1, by omega, .inl rfl, WG_neg, spec2 (st ?_), fun D δ h1 h2 h3 h4 => ?_⟩
        ·exact Ev.now _
        ·obtain ⟨out, b1, b2⟩ := a6 D (δ + 1) h1 h2 (by omega) (by omega)
         rcases b2 with ⟨b2, _⟩ | ⟨_, b2⟩
         ·omega
         ·refine ⟨((false, ()), ((out.2.1.1, out.2.1.2.1, out.2.1.2.2.1, out.2.1.2.2.2.1, ()), (), (), (), (), ())), impl2 (impl_step (r10 := out) (i := 0) h0k (by omega) hkl (by omega) (by omega) b1 ?_), .inr ⟨by omega, rfl⟩⟩
          simp only [b2, Bool.not_false, if_true]
          exact Ev.now _
       ·have hneg : decide (d1 < 0) = false := by simp; omega
        have hz : decide ((0 : Int) > 0) = false := by decide
        obtain ⟨d2, s2, c1, c2, c3, c4, cg, c5, c6⟩ := kids_loop (low := low) (high := high) (leaf := false) (vals := n.2.2.1) ih hlen hkl hrng (n.2.2.2.1.length - 1) 1 s1 d1 (by omega) a1 (by omega) (a2 hroot1) a4 (by
         have : (seen.set at' true).count false ≤ 19 := by rw [← hs1]; exact List.count_le_length
         omega)
        refine ⟨d2, s2, c1, fun _ => c2, by omega, ?_, fun _ => by
         have hd2 : d2 = d1 + 1 := by rcases c4 with c4 | c4 <;> omega
         obtain ⟨g1, g2⟩ := cg hd2
         obtain ⟨g3, g4⟩ := ag (by omega)
         have e1 : d2.toNat = d1.toNat + 1 := by omega
         rw [e1]
         refine ⟨Gd_succ.2 ⟨n, hnn ▸ List.getElem?_eq_getElem hltl, hno, hin, hsh', .inr ⟨hleaf, hlen, fun i hi => ?_⟩⟩, cost_step (K := n.2.2.2.1.length - 1) (hsh'.imp_right (fun h => by omega)) (by omega) g2 g4 hcount⟩
         rcases Nat.eq_zero_or_pos i with rfl | h0
         ·exact ⟨kid, hkid, by omega, g3⟩
         ·exact g1 i h0 hi, spec2 (st ?_), fun D δ h1 h2 h3 h4 => ?_⟩
        ·rcases c4 with c4 | c4
         ·exact .inl c4
         ·exact .inr ⟨by omega, by omega⟩
        ·simp only [hneg, hz, Bool.false_eq_true, if_false]
         exact c5
        ·obtain ⟨out, b1, b2⟩ := a6 D (δ + 1) h1 h2 (by omega) (by omega)
         rcases b2 with ⟨_, b3, b2⟩ | ⟨b3, b2⟩
         ·obtain ⟨out2, e1, e2⟩ := c6 δ h3 (by omega) (by omega)
          subst b2
          refine ⟨out2, impl2 (impl_step (i := 0) h0k (by omega) hkl (by omega) (by omega) b1 ?_), ?_⟩
          ·simp only [Bool.not_true, Bool.false_eq_true, if_false]
           have e : δ + 1 + d1 - 1 = δ + d1 := by omega
           rw [e]
           exact e1
          ·rcases e2 with ⟨e2, e3⟩ | ⟨e2, e3⟩
           ·refine .inl ⟨by omega, by omega, ?_⟩
            have e : δ + d2 - 1 = δ + d1 := by omega
            rw [e]
            exact e3
           ·exact .inr ⟨by omega, e3⟩
         ·refine ⟨((false, ()), ((out.2.1.1, out.2.1.2.1, out.2.1.2.2.1, out.2.1.2.2.2.1, ()), (), (), (), (), ())), impl2 (impl_step (r10 := out) (i := 0) h0k (by omega) hkl (by omega) (by omega) b1 ?_), .inr ⟨?_, rfl⟩⟩
          ·simp only [b2, Bool.not_false, if_true]
           exact Ev.now _
          ·intro hh
           refine b3 ⟨a4, ?_⟩
           omega
end
end Go.Proofs.Ytcolgghllacloaa.R
end

section
namespace Go.Proofs.Ytcolgghllacloaa.R
open Go.Rf
def goodAt (seen : List Bool) (l : List NodeT) (i : Nat) : Bool := seen.getD i false || nodeZero (l.getD i (false, [], [], [], ()))
theorem getNd_of {l : List NodeT} {i : Nat} (h : i < l.length) : l[i]? = some (l.getD i (false, [], [], [], ())) := by
 rw [List.getD_eq_getElem?_getD, List.getElem?_eq_getElem h]
 rfl
theorem F24c6_ev {root : Int} {l : List NodeT} {seen : List Bool} {d : Int} (hs : seen.length = 19) (hn : l.length = 19) : Ev (fun k => F24c6 k root l seen d 0) (if (List.range seen.length).all (goodAt seen l) = true then ((d, ()), (((), (), ()), ())) else (((-1 : Int), ()), (((), (), ()), ()))) := by
 refine all_loop (L := fun k i => F24c6 k root l seen d i) ?_ ?_ ?_
 ·intro i hi hc
  refine Ev.step 1 (fun k => F24c6_eq k root l seen d i) ?_
  unfold goodAt at hc
  simp only [Bool.or_eq_false_iff] at hc
  simp only [lt_true hi, ge0, Bool.and_self, if_true, Int.toNat_natCast, getB_of hi, getNd_of (show i < l.length by omega), Option.bind_some, hc.1, Bool.not_false]
  refine Ev.bind (F41_ev _) ?_
  simp only [hc.2, Bool.not_false, if_true]
  exact Ev.now _
 ·intro i hi hc r hr
  refine Ev.step 1 (fun k => F24c6_eq k root l seen d i) ?_
  unfold goodAt at hc
  simp only [lt_true hi, ge0, Bool.and_self, if_true, Int.toNat_natCast, getB_of hi, getNd_of (show i < l.length by omega), Option.bind_some]
  rw [wrap_succ (by omega)]
  cases h1 : seen.getD i false with
  | true => exact hr
  | false =>
   rw [h1, Bool.false_or] at hc
   simp only [Bool.not_false, if_true]
   refine Ev.bind (F41_ev _) ?_
   simp only [hc, Bool.not_true, Bool.false_eq_true, if_false]
   exact hr
 ·refine Ev.step 1 (fun k => F24c6_eq k root l seen d seen.length) ?_
  simp only [lt_false (Nat.le_refl seen.length), Bool.false_eq_true, if_false]
  exact Ev.now _
theorem F34c7_ev {root : Int} {l : List NodeT} {seen : List Bool} {d : Int} (hs : seen.length = 19) (hn : l.length = 19) : Ev (fun k => F34c7 k root l seen d l (l.length : Int) 0) (if (List.range l.length).all (goodAt seen l) = true then ((d, ()), (((), (), ()), ())) else (((0 : Int), ()), (((), (), ()), ()))) := by
 refine all_loop (L := fun k i => F34c7 k root l seen d l (l.length : Int) i) ?_ ?_ ?_
 ·intro i hi hc
  have hi2 : i < seen.length := by omega
  refine Ev.step 1 (fun k => F34c7_eq k root l seen d l _ i) ?_
  unfold goodAt at hc
  simp only [Bool.or_eq_false_iff] at hc
  simp only [lt_true hi, lt_true hi2, ge0, Bool.and_self, if_true, Int.toNat_natCast, getB_of hi2, getNd_of hi, Option.bind_some, hc.1, Bool.not_false]
  refine Ev.bind (F53_ev _) ?_
  simp only [hc.2, Bool.not_false, if_true]
  exact Ev.now _
 ·intro i hi hc r hr
  have hi2 : i < seen.length := by omega
  refine Ev.step 1 (fun k => F34c7_eq k root l seen d l _ i) ?_
  unfold goodAt at hc
  simp only [lt_true hi, lt_true hi2, ge0, Bool.and_self, if_true, Int.toNat_natCast, getB_of hi2, getNd_of hi, Option.bind_some]
  rw [wrap_succ (by omega)]
  cases h1 : seen.getD i false with
  | true => exact hr
  | false =>
   rw [h1, Bool.false_or] at hc
   simp only [Bool.not_false, if_true]
   refine Ev.bind (F53_ev _) ?_
   simp only [hc, Bool.not_true, Bool.false_eq_true, if_false]
   exact hr
 ·refine Ev.step 1 (fun k => F34c7_eq k root l seen d l _ l.length) ?_
  simp only [lt_false (Nat.le_refl l.length), Bool.false_eq_true, if_false]
  exact Ev.now _
def Sound (l : List NodeT) (t : Int) (d : Nat) : Prop := l.length = 19 ∧ ∃ root : Nat, t = (root : Int) ∧ root < 19 ∧ Gd l d root (⟨#[]⟩ : ByteArray) (⟨#[]⟩ : ByteArray) true ∧ cost true d ≤ 19
theorem deep_ev' (t : Int) (l : List NodeT) (hok : ∀ n, n ∈ l → okNode n) : ∃ v : Int, (v = -1 ∨ 1 ≤ v) ∧ (1 ≤ v → Sound l t v.toNat) ∧ Ev (fun k => F24 k t l) ((v, ()), (((), (), ()), ())) ∧ Ev (fun k => F34 k t l) ((if v < 0 then 0 else v, ()), (((), (), ()), ())) := by
 by_cases hn : l.length = 19
 ·have hne : ((l.length : Int) != 19) = false := by simp [hn]
  by_cases hw : inNode t 0 18 = true
  ·have ht : 0 ≤ t ∧ t ≤ 18 := by
    unfold inNode at hw
    simpa using hw
   obtain ⟨root, rfl⟩ : ∃ r : Nat, t = (r : Int) := ⟨t.toNat, by omega⟩
   have hc19 : (List.replicate 19 false).count false = 19 := by decide
   obtain ⟨d, s, a1, _, _, a4, ag, a5, a6⟩ := walks (root := root) hn hok 19 (List.replicate 19 false) root (⟨#[]⟩ : ByteArray) (⟨#[]⟩ : ByteArray) true (by simp) (by omega) (by omega) (.inl ⟨rfl, rfl⟩)
   obtain ⟨out, b1, b2⟩ := a6 0 1 (by omega) (by omega) (by omega) (by omega)
   have hmk : (decide (0 ≤ (19 : Int)) && decide ((19 : Int) ≤ (19 : Int)) && decide ((19 : Int) ≤ (140737488355328 : Int))) = true := by decide
   have e88 : ∀ {q}, Ev (fun k => F24c6 k root l s d 0) q → Ev (fun k => F24 k root l) q := by
    intro q hq
    refine Ev.step 2 (fun k => F24_eq k root l) ?_
    simp only [hne, Bool.false_eq_true, if_false]
    refine Ev.bind (F39_ev _ 0 18) ?_
    simp only [hw, Bool.not_true, Bool.false_eq_true, if_false, hmk, if_true]
    exact Ev.bind a5 hq
   have e90 : ∀ {q}, Ev (fun k => if (!out.1.1) = true then some (((0 : Int), ()), (((), (), ()), ())) else F34c7 k out.2.1.1 out.2.1.2.1 out.2.1.2.2.1 out.2.1.2.2.2.1 l (l.length : Int) (0 : Int)) q → Ev (fun k => F34 k root l) q := by
    intro q hq
    refine Ev.step 2 (fun k => F34_eq k root l) ?_
    simp only [hne, Bool.false_eq_true, if_false]
    refine Ev.bind (F51_ev _ 0 18) ?_
    simp only [hw, Bool.not_true, Bool.false_eq_true, if_false, hmk, if_true]
    exact Ev.bind b1 hq
   have h88 := e88 (F24c6_ev (root := root) (d := d) a1 hn)
   rcases a4 with a4 | ⟨a4, a4'⟩
   ·subst a4
    refine ⟨-1, .inl rfl, fun h => absurd h (by omega), ?_, e90 ?_⟩
    ·have : (if (List.range s.length).all (goodAt s l) = true then (((-1 : Int), ()), (((), (), ()), ())) else (((-1 : Int), ()), (((), (), ()), ()))) = (((-1 : Int), ()), ((((), (), ()) : Unit × Unit × Unit), ())) := by split <;> rfl
     rw [this] at h88
     exact h88
    ·rcases b2 with ⟨b2, _⟩ | ⟨_, b2⟩
     ·omega
     ·simp only [b2, Bool.not_false, if_true]
      exact Ev.now _
   ·rcases b2 with ⟨_, _, b2⟩ | ⟨b2, _⟩
    ·subst b2
     have h90 := e90 (by
      simp only [Bool.not_true, Bool.false_eq_true, if_false]
      exact F34c7_ev (root := root) (d := 1 + d - 1) a1 hn)
     rw [a1] at h88
     rw [hn] at h90
     cases hall : (List.range 19).all (goodAt s l) with
     | true =>
      rw [hall] at h88 h90
      simp only [if_true] at h88 h90
      refine ⟨d, .inr a4, fun _ => ⟨hn, root, rfl, by omega, (ag a4).1, by have := (ag a4).2; omega⟩, h88, ?_⟩
      rw [if_neg (by omega)]
      have e : 1 + d - 1 = d := by omega
      rw [e] at h90
      exact h90
     | false =>
      rw [hall] at h88 h90
      simp only [Bool.false_eq_true, if_false] at h88 h90
      exact ⟨-1, .inl rfl, fun h => absurd h (by omega), h88, h90⟩
    ·exact absurd ⟨a4, .inl rfl⟩ b2
  ·have hw' : inNode t 0 18 = false := by simpa using hw
   refine ⟨-1, .inl rfl, fun h => absurd h (by omega), ?_, ?_⟩
   ·refine Ev.step 2 (fun k => F24_eq k t l) ?_
    simp only [hne, Bool.false_eq_true, if_false]
    refine Ev.bind (F39_ev _ 0 18) ?_
    simp only [hw', Bool.not_false, if_true]
    exact Ev.now _
   ·refine Ev.step 2 (fun k => F34_eq k t l) ?_
    simp only [hne, Bool.false_eq_true, if_false]
    refine Ev.bind (F51_ev _ 0 18) ?_
    simp only [hw', Bool.not_false, if_true]
    exact Ev.now _
 ·have hne : ((l.length : Int) != 19) = true := by simp; omega
  refine ⟨-1, .inl rfl, fun h => absurd h (by omega), ?_, ?_⟩
  ·refine Ev.step 2 (fun k => F24_eq k t l) ?_
   simp only [hne, if_true]
   exact Ev.now _
  ·refine Ev.step 2 (fun k => F34_eq k t l) ?_
   simp only [hne, if_true]
   exact Ev.now _
end Go.Proofs.Ytcolgghllacloaa.R
end

section
namespace Go.Proofs.Ytcolgghllacloaa.R
open Go.Rf
theorem F86_ev (l : List ByteArray) (h : okLen l.length) (key : ByteArray) : ∃ p, IsLow l key p ∧ Ev (fun k => F86 k l key) (((p : Int), ()), ((), (), ())) := by
 have hh : ∃ p, p ≤ l.length ∧ (∀ j, j < p → Op.bytesLess (l.getD j ByteArray.empty).toList key.toList = true) ∧ (p < l.length → Op.bytesLess (l.getD p ByteArray.empty).toList key.toList = false) ∧ Ev (fun k => F86c2 k l key 0) (((p : Int), ()), ((), (), ())) := by
  refine first_loop (L := fun k i => F86c2 k l key i) (c := fun i => Op.bytesLess (l.getD i ByteArray.empty).toList key.toList) (fin := fun p => (((p : Int), ()), ((), (), ()))) ?_ ?_
  ·intro i hi hc
   refine Ev.step 1 (fun k => F86c2_eq k l key i) ?_
   rcases Nat.eq_or_lt_of_le hi with rfl | hlt
   ·simp only [lt_false (Nat.le_refl _), Bool.false_eq_true, if_false]
    exact Ev.now _
   ·simp only [lt_true hlt, ge0, if_true, Int.toNat_natCast, getD_of hlt, Option.bind_some, hc hlt, Bool.false_eq_true, if_false]
    exact Ev.now _
  ·intro i hi hc r hr
   refine Ev.step 1 (fun k => F86c2_eq k l key i) ?_
   simp only [lt_true hi, ge0, if_true, Int.toNat_natCast, getD_of hi, Option.bind_some, hc]
   rw [wrap_succ (by unfold okLen at h; omega)]
   exact hr
 obtain ⟨p, h1, h2, h3, h4⟩ := hh
 exact ⟨p, ⟨h1, h2, h3⟩, Ev.step 2 (fun k => F86_eq k l key) h4⟩
theorem F90_ev (l : List ByteArray) (h : okLen l.length) (key : ByteArray) : ∃ p, IsUp l key p ∧ Ev (fun k => F90 k l key) (((p : Int), ()), ((), (), ())) := by
 have hh : ∃ p, p ≤ l.length ∧ (∀ j, j < p → (!Op.bytesLess key.toList (l.getD j ByteArray.empty).toList) = true) ∧ (p < l.length → (!Op.bytesLess key.toList (l.getD p ByteArray.empty).toList) = false) ∧ Ev (fun k => F90c2 k l key 0) (((p : Int), ()), ((), (), ())) := by
  refine first_loop (L := fun k i => F90c2 k l key i) (c := fun i => !Op.bytesLess key.toList (l.getD i ByteArray.empty).toList) (fin := fun p => (((p : Int), ()), ((), (), ()))) ?_ ?_
  ·intro i hi hc
   refine Ev.step 1 (fun k => F90c2_eq k l key i) ?_
   rcases Nat.eq_or_lt_of_le hi with rfl | hlt
   ·simp only [lt_false (Nat.le_refl _), Bool.false_eq_true, if_false]
    exact Ev.now _
   ·simp only [lt_true hlt, ge0, if_true, Int.toNat_natCast, getD_of hlt, Option.bind_some, ← not_less, hc hlt, Bool.false_eq_true, if_false]
    exact Ev.now _
  ·intro i hi hc r hr
   refine Ev.step 1 (fun k => F90c2_eq k l key i) ?_
   simp only [lt_true hi, ge0, if_true, Int.toNat_natCast, getD_of hi, Option.bind_some, ← not_less, hc]
   rw [wrap_succ (by unfold okLen at h; omega)]
   exact hr
 obtain ⟨p, h1, h2, h3, h4⟩ := hh
 exact ⟨p, ⟨h1, fun j hj => by simpa using h2 j hj, fun hp => by simpa using h3 hp⟩, Ev.step 2 (fun k => F90_eq k l key) h4⟩
end Go.Proofs.Ytcolgghllacloaa.R
end

section
namespace Go.Proofs.Ytcolgghllacloaa.R
open Go.Rf Go.RowKit
abbrev AllT (w : World) : Nat → Prop := fun b => b < w.heap.size
theorem glT (w : World) (Z : Nat → Prop) : GL cx w Z := ⟨(fun _ _ h => by cases h), (fun _ _ h => by cases h)⟩
theorem res_intT {w : World} {Z : Nat → Prop} {n : Int} {vs : List Value} {fp : List Nat} (h : ShsRep w Z [.c (.v (.int .i64))] (n, ()) vs fp) : tupV vs = .int .i64 n := by
 match vs, h with
 | [v], ⟨f, g, _, ⟨hv, _⟩, _⟩ => exact (List.cons.inj hv).1
theorem tree_shapeT {w : World} {Z : Nat → Prop} {root : Int} {N : List NodeT} {v : Value} (h : rep w Z (.sl nodeT) N [v]) :
  ShRep w Z (.agg [.v (.int .i64), .v (.sl nodeT)]) (root, N, ()) (.agg #[.int .i64 root, v]) [] :=
 ⟨_, rfl, [], [], rfl, ⟨rfl, rfl⟩, [], [], rfl, ⟨h, rfl⟩, rfl⟩
theorem row_of {w' : World} {Z : Nat → Prop} {B : Nat} {e : T} {id : Nat} {l : List e.D} {f : e.D → Value} {v : Value} {fp : List Nat} (hf : ∀ x c, rep w' Z e x c → c = [f x]) (hn : e.n = 1) (h : SRep w' Z (.o e id true) l v fp) (hb : ∀ b ∈ fp, B ≤ b) : RowIn w' B id v (l.map f) := by
 obtain ⟨h1, _, h3⟩ := h
 exact RowIn.of hf hn h1 (fun b hbl => hb b (by rw [h3, hbl]; simp))
theorem ask_place {w : World} {v : Value} {l : List ByteArray} {key : ByteArray} (h : rep w (AllT w) (.sl .str) l [v]) (hl : okLen l.length) :
  Calls Try.prog 86 #[v, .string key] w fun e w' => ∃ p : Nat, e = .returned (.int .i64 (p : Int)) ∧ IsLow l key p ∧ Below w.heap.size w w' := by
 obtain ⟨p, hp, hev⟩ := F86_ev l hl key
 obtain ⟨k, hk⟩ := hev.get
 refine (ask_read (told k 86 (l, key, ()) (((p : Int), ()), ((), (), ())) hk) (args := [v, .string key]) ⟨[], [], rfl, ⟨h, rfl⟩, [], [], rfl, ⟨rfl, rfl⟩, rfl⟩ (glT _ _)).mono ?_
 rintro e w' ⟨rvs, rfp, rfl, hs, _, _, hb⟩
 exact ⟨p, by rw [res_intT hs], hp, hb⟩
theorem ask_kid {w : World} {v : Value} {l : List ByteArray} {key : ByteArray} (h : rep w (AllT w) (.sl .str) l [v]) (hl : okLen l.length) :
  Calls Try.prog 90 #[v, .string key] w fun e w' => ∃ p : Nat, e = .returned (.int .i64 (p : Int)) ∧ IsUp l key p ∧ Below w.heap.size w w' := by
 obtain ⟨p, hp, hev⟩ := F90_ev l hl key
 obtain ⟨k, hk⟩ := hev.get
 refine (ask_read (told k 90 (l, key, ()) (((p : Int), ()), ((), (), ())) hk) (args := [v, .string key]) ⟨[], [], rfl, ⟨h, rfl⟩, [], [], rfl, ⟨rfl, rfl⟩, rfl⟩ (glT _ _)).mono ?_
 rintro e w' ⟨rvs, rfp, rfl, hs, _, _, hb⟩
 exact ⟨p, by rw [res_intT hs], hp, hb⟩
theorem l9Free_ev (root : Int) (N : List NodeT) (hl : okLen N.length) : ∃ r : Int, (r = -1 ∨ ∃ (i : Nat) (n : NodeT), r = (i : Int) ∧ N[i]? = some n ∧ nodeZero n = true) ∧ Ev (fun k => F77 k root N) ((r, ()), (((), (), ()), ())) := by
 unfold okLen at hl
 have key : ∀ (m i : Nat), i + m = N.length → ∃ r : Int, (r = -1 ∨ ∃ (i : Nat) (n : NodeT), r = (i : Int) ∧ N[i]? = some n ∧ nodeZero n = true) ∧ Ev (fun k => F77c2 k root N (i : Int)) ((r, ()), (((), (), ()), ())) := by
  intro m
  induction m with
  | zero =>
   intro i hi
   obtain rfl : i = N.length := by omega
   refine ⟨-1, .inl rfl, Ev.step 1 (fun k => F77c2_eq k _ _ _) ?_⟩
   simp only [lt_false (Nat.le_refl _), Bool.false_eq_true, if_false]
   exact Ev.now _
  | succ m ih =>
   intro i hi
   have hil : i < N.length := by omega
   obtain ⟨n, hn⟩ : ∃ n, N[i]? = some n := ⟨_, List.getElem?_eq_getElem hil⟩
   cases hz : nodeZero n with
   | true =>
    refine ⟨(i : Int), .inr ⟨i, n, rfl, hn, hz⟩, Ev.step 1 (fun k => F77c2_eq k _ _ _) ?_⟩
    simp only [lt_true hil, ge0, if_true, Int.toNat_natCast, hn, Option.bind_some]
    refine Ev.bind (F41_ev n) ?_
    simp only [hz, if_true]
    exact Ev.now _
   | false =>
    obtain ⟨r, h1, h2⟩ := ih (i + 1) (by omega)
    refine ⟨r, h1, Ev.step 1 (fun k => F77c2_eq k _ _ _) ?_⟩
    simp only [lt_true hil, ge0, if_true, Int.toNat_natCast, hn, Option.bind_some]
    refine Ev.bind (F41_ev n) ?_
    simp only [hz, Bool.false_eq_true, if_false]
    rw [wrap_succ (by omega)]
    exact h2
 obtain ⟨r, h1, h2⟩ := key N.length 0 (by omega)
 exact ⟨r, h1, Ev.step 2 (fun k => F77_eq k _ _) h2⟩
theorem ask_free {w : World} {root : Int} {N : List NodeT} {v : Value} (h : rep w (AllT w) (.sl nodeT) N [v]) (hl : okLen N.length) :
  Calls Try.prog 77 #[.agg #[.int .i64 root, v]] w fun e w' => ∃ r : Int, e = .returned (.int .i64 r) ∧ (r = -1 ∨ ∃ (i : Nat) (n : NodeT), r = (i : Int) ∧ N[i]? = some n ∧ nodeZero n = true) ∧ Below w.heap.size w w' := by
 obtain ⟨r, hr, hev⟩ := l9Free_ev root N hl
 obtain ⟨k, hk⟩ := hev.get
 refine (ask_read (told k 77 ((root, N, ()), ()) ((r, ()), (((), (), ()), ())) hk) (args := [.agg #[.int .i64 root, v]]) ⟨[], [], rfl, tree_shapeT h, rfl⟩ (glT _ _)).mono ?_
 rintro e w' ⟨rvs, rfp, rfl, hs, _, _, hb⟩
 exact ⟨r, by rw [res_intT hs], hr, hb⟩
def manyOf (N : List NodeT) (kids : List Int) (i : Int) : Nat := if 0 ≤ i ∧ i < kids.length then (N.getD (kids.getD i.toNat 0).toNat (false, [], [], [], ())).2.1.length else 0
theorem ask_many {w : World} {root : Int} {N : List NodeT} {v : Value} {at' : Nat} {i : Int} {n : NodeT} (h : rep w (AllT w) (.sl nodeT) N [v]) (hn : N[at']? = some n) (hk : n.2.2.2.1.length ≤ 1048576) (hr : ∀ x ∈ n.2.2.2.1, 0 ≤ x ∧ x < N.length) :
  Calls Try.prog 97 #[.agg #[.int .i64 root, v], .int .i64 (at' : Int), .int .i64 i] w fun e w' => e = .returned (.int .i64 (manyOf N n.2.2.2.1 i : Int)) ∧ Below w.heap.size w w' := by
 have hev : Ev (fun k => F97 k root N (at' : Int) i) (((manyOf N n.2.2.2.1 i : Int), ()), (((), (), ()), (), (), ())) := by
  refine Ev.step 2 (fun k => F97_eq k _ _ _ _) ?_
  have ew : IntKind.i64.wrap ((n.2.2.2.1.length : Int) - (1 : Int)) = (n.2.2.2.1.length : Int) - 1 := by rw [wrap64 (by omega) (by omega)]
  simp only [ge0, if_true, Int.toNat_natCast, hn, Option.bind_some, ew]
  refine Ev.bind (F39_ev _ _ _) ?_
  by_cases hi : 0 ≤ i ∧ i < n.2.2.2.1.length
  ·have hin : inNode i 0 ((n.2.2.2.1.length : Int) - 1) = true := by unfold inNode; simp; omega
   have h0 : decide (0 ≤ i) = true := decide_eq_true hi.1
   have hil : i.toNat < n.2.2.2.1.length := by omega
   obtain ⟨k0, k1⟩ := hr (n.2.2.2.1.getD i.toNat 0) (by
    rw [List.getD_eq_getElem?_getD, List.getElem?_eq_getElem hil]
    exact List.getElem_mem hil)
   have hk0 : decide (0 ≤ n.2.2.2.1.getD i.toNat 0) = true := decide_eq_true k0
   have hkl : (n.2.2.2.1.getD i.toNat 0).toNat < N.length := by omega
   simp only [hin, h0, Bool.not_true, Bool.false_eq_true, if_false, if_true, getI_of hil, Option.bind_some, hk0, List.getElem?_eq_getElem hkl]
   have e : manyOf N n.2.2.2.1 i = N[(n.2.2.2.1.getD i.toNat 0).toNat].2.1.length := by
    unfold manyOf
    rw [if_pos hi]
    generalize n.2.2.2.1.getD i.toNat 0 = q at hkl
    rw [List.getD_eq_getElem?_getD, List.getElem?_eq_getElem hkl]
    rfl
   rw [e]
   exact Ev.now _
  ·have hin : inNode i 0 ((n.2.2.2.1.length : Int) - 1) = false := by unfold inNode; simp; omega
   simp only [hin, Bool.not_false, if_true]
   have e : manyOf N n.2.2.2.1 i = 0 := by unfold manyOf; rw [if_neg hi]
   rw [e]
   exact Ev.now _
 obtain ⟨k, hk⟩ := hev.get
 refine (ask_read (told k 97 ((root, N, ()), (at' : Int), i, ()) (((manyOf N n.2.2.2.1 i : Int), ()), (((), (), ()), (), (), ())) hk) (args := [.agg #[.int .i64 root, v], .int .i64 (at' : Int), .int .i64 i]) ⟨[], [], rfl, tree_shapeT h, [], [], rfl, ⟨rfl, rfl⟩, [], [], rfl, ⟨rfl, rfl⟩, rfl⟩ (glT _ _)).mono ?_
 rintro e w' ⟨rvs, rfp, rfl, hs, _, _, hb⟩
 exact ⟨by rw [res_intT hs], hb⟩
theorem slices_all {α : Type} (l : List α) (i : Nat) : slices l 0 i = l.take i ∧ slices l i l.length = l.drop i := by
 unfold slices
 exact ⟨by simp, by rw [List.take_length]⟩
theorem ask_in {w : World} {v : Value} {l : List ByteArray} {i : Nat} {s : ByteArray} (h : rep w (AllT w) (.sl .str) l [v]) (hl : okLen l.length) (hi : i ≤ l.length) :
  Calls Try.prog 93 #[v, .int .i64 (i : Int), .string s] w fun e w' => ∃ u, e = .returned u ∧ RowIn w' w.heap.size 9 u (strs (l.take i ++ [s] ++ l.drop i)) ∧ Below w.heap.size w w' := by
 unfold okLen at hl
 have hev : Ev (fun k => F93 k l (i : Int) s) ((l.take i ++ [s] ++ l.drop i, ()), ((), (), (), ())) := by
  refine Ev.step 2 (fun k => F93_eq k _ _ _) ?_
  have h1 : decide ((i : Int) ≤ (l.length : Int)) = true := decide_eq_true (by omega)
  simp only [ge0, h1, Bool.and_self, if_true, Int.toNat_natCast, (slices_all l i).1, (slices_all l i).2, List.nil_append, List.length_append, List.length_take, List.length_drop, List.length_nil, List.length_singleton]
  rw [if_pos (decide_eq_true (by omega)), if_pos (decide_eq_true (by omega)), if_pos (decide_eq_true (by omega))]
  exact Ev.now _
 obtain ⟨k, hk⟩ := hev.get
 refine (ask_read (told k 93 (l, (i : Int), s, ()) ((l.take i ++ [s] ++ l.drop i, ()), ((), (), (), ())) hk) (args := [v, .int .i64 (i : Int), .string s]) ⟨[], [], rfl, ⟨h, rfl⟩, [], [], rfl, ⟨rfl, rfl⟩, [], [], rfl, ⟨rfl, rfl⟩, rfl⟩ (glT _ _)).mono ?_
 rintro e w' ⟨rvs, rfp, rfl, hs, _, hf, hb⟩
 match rvs, hs with
 | [u], ⟨f, g, hfg, hu, _⟩ => exact ⟨u, rfl, row_of (e := .str) (fun x c h => h) rfl hu (fun b hb => hf b (by rw [hfg]; simp [hb])), hb⟩
theorem ask_inNum {w : World} {v : Value} {l : List Int} {i : Nat} {s : Int} (h : rep w (AllT w) (.sl (.int .i64)) l [v]) (hl : okLen l.length) (hi : i ≤ l.length) :
  Calls Try.prog 94 #[v, .int .i64 (i : Int), .int .i64 s] w fun e w' => ∃ u, e = .returned u ∧ RowIn w' w.heap.size 3 u (ints (l.take i ++ [s] ++ l.drop i)) ∧ Below w.heap.size w w' := by
 unfold okLen at hl
 have hev : Ev (fun k => F94 k l (i : Int) s) ((l.take i ++ [s] ++ l.drop i, ()), ((), (), (), ())) := by
  refine Ev.step 2 (fun k => F94_eq k _ _ _) ?_
  have h1 : decide ((i : Int) ≤ (l.length : Int)) = true := decide_eq_true (by omega)
  simp only [ge0, h1, Bool.and_self, if_true, Int.toNat_natCast, (slices_all l i).1, (slices_all l i).2, List.nil_append, List.length_append, List.length_take, List.length_drop, List.length_nil, List.length_singleton]
  rw [if_pos (decide_eq_true (by omega)), if_pos (decide_eq_true (by omega)), if_pos (decide_eq_true (by omega))]
  exact Ev.now _
 obtain ⟨k, hk⟩ := hev.get
 refine (ask_read (told k 94 (l, (i : Int), s, ()) ((l.take i ++ [s] ++ l.drop i, ()), ((), (), (), ())) hk) (args := [v, .int .i64 (i : Int), .int .i64 s]) ⟨[], [], rfl, ⟨h, rfl⟩, [], [], rfl, ⟨rfl, rfl⟩, [], [], rfl, ⟨rfl, rfl⟩, rfl⟩ (glT _ _)).mono ?_
 rintro e w' ⟨rvs, rfp, rfl, hs, _, hf, hb⟩
 match rvs, hs with
 | [u], ⟨f, g, hfg, hu, _⟩ => exact ⟨u, rfl, row_of (e := .int .i64) (fun x c h => h) rfl hu (fun b hb => hf b (by rw [hfg]; simp [hb])), hb⟩
def NodeR (w : World) (B : Nat) (v : Value) (n : NodeT) : Prop := ∃ uK uV uI, v = .agg #[.bool n.1, uK, uV, uI] ∧ RowIn w B 9 uK (strs n.2.1) ∧ RowIn w B 9 uV (strs n.2.2.1) ∧ RowIn w B 3 uI (ints n.2.2.2.1)
theorem node_of {w' : World} {Z : Nat → Prop} {B : Nat} {n : NodeT} {vs : List Value} {fp : List Nat} (h : ShsRep w' Z [.agg [.v .bool, .o .str 9 true, .o .str 9 true, .o (.int .i64) 3 true]] ((n.1, n.2.1, n.2.2.1, n.2.2.2.1, ()), ()) vs fp) (hb : ∀ b ∈ fp, B ≤ b) : ∃ v, tupV vs = v ∧ NodeR w' B v n := by
 match vs, h with
 | [v], ⟨f, g, e1, ⟨us, ev, hs⟩, _⟩ =>
  subst ev
  obtain ⟨us⟩ := us
  match us, hs with
  | [a, b, c, d], ⟨f1, g1, q1, ⟨ha, _⟩, f2, g2, q2, hK, f3, g3, q3, hV, f4, g4, q4, hI, _⟩ =>
   obtain rfl : a = .bool n.1 := (List.cons.inj (show [a] = [Value.bool n.1] from ha)).1
   subst e1 q1 q2 q3 q4
   refine ⟨_, rfl, b, c, d, rfl, row_of (e := .str) (fun x c h => h) rfl hK (fun x hx => hb x (by simp [hx])), row_of (e := .str) (fun x c h => h) rfl hV (fun x hx => hb x (by simp [hx])), row_of (e := .int .i64) (fun x c h => h) rfl hI (fun x hx => hb x (by simp [hx]))⟩
theorem copy_ev {lf : Bool} {K V : List ByteArray} {I : List Int} (h1 : okLen K.length) (h2 : okLen V.length) (h3 : okLen I.length) : Ev (fun k => F87 k lf K V I) (((lf, K, V, I, ()), ()), (((), (), (), (), ()), ())) := by
 unfold okLen at h1 h2 h3
 refine Ev.step 2 (fun k => F87_eq k _ _ _ _) ?_
 simp only [List.nil_append, List.length_nil, Nat.zero_add]
 rw [if_pos (decide_eq_true (by omega)), if_pos (decide_eq_true (by omega)), if_pos (decide_eq_true (by omega))]
 exact Ev.now _
theorem ask_copy {w : World} {lf : Bool} {vK vV vI : Value} {K V : List ByteArray} {I : List Int} (hK : rep w (AllT w) (.sl .str) K [vK]) (hV : rep w (AllT w) (.sl .str) V [vV]) (hI : rep w (AllT w) (.sl (.int .i64)) I [vI]) (h1 : okLen K.length) (h2 : okLen V.length) (h3 : okLen I.length) :
  Calls Try.prog 87 #[.agg #[.bool lf, vK, vV, vI]] w fun e w' => ∃ v, e = .returned v ∧ NodeR w' w.heap.size v (lf, K, V, I, ()) ∧ Below w.heap.size w w' := by
 obtain ⟨k, hk⟩ := (copy_ev (lf := lf) h1 h2 h3).get
 refine (ask_read (told k 87 ((lf, K, V, I, ()), ()) (((lf, K, V, I, ()), ()), (((), (), (), (), ()), ())) hk) (args := [.agg #[.bool lf, vK, vV, vI]]) ⟨[], [], rfl, ⟨_, rfl, [], [], rfl, ⟨rfl, rfl⟩, [], [], rfl, ⟨hK, rfl⟩, [], [], rfl, ⟨hV, rfl⟩, [], [], rfl, ⟨hI, rfl⟩, rfl⟩, rfl⟩ (glT _ _)).mono ?_
 rintro e w' ⟨rvs, rfp, rfl, hs, _, hf, hb⟩
 obtain ⟨v, rfl, hv⟩ := node_of (n := (lf, K, V, I, ())) hs hf
 exact ⟨_, rfl, hv, hb⟩
theorem ask_leafOf {w : World} {vK vV : Value} {K V : List ByteArray} (hK : rep w (AllT w) (.sl .str) K [vK]) (hV : rep w (AllT w) (.sl .str) V [vV]) (h1 : okLen K.length) (h2 : okLen V.length) :
  Calls Try.prog 88 #[vK, vV] w fun e w' => ∃ v, e = .returned v ∧ NodeR w' w.heap.size v (true, K, V, [], ()) ∧ Below w.heap.size w w' := by
 have hev : Ev (fun k => F88 k K V) (((true, K, V, [], ()), ()), ((), (), ())) := Ev.step 2 (fun k => F88_eq k _ _) (Ev.bind (copy_ev h1 h2 (Nat.zero_le _)) (Ev.now _))
 obtain ⟨k, hk⟩ := hev.get
 refine (ask_read (told k 88 (K, V, ()) (((true, K, V, [], ()), ()), ((), (), ())) hk) (args := [vK, vV]) ⟨[], [], rfl, ⟨hK, rfl⟩, [], [], rfl, ⟨hV, rfl⟩, rfl⟩ (glT _ _)).mono ?_
 rintro e w' ⟨rvs, rfp, rfl, hs, _, hf, hb⟩
 obtain ⟨v, rfl, hv⟩ := node_of (n := (true, K, V, [], ())) hs hf
 exact ⟨_, rfl, hv, hb⟩
theorem ask_innerOf {w : World} {vK vI : Value} {K : List ByteArray} {I : List Int} (hK : rep w (AllT w) (.sl .str) K [vK]) (hI : rep w (AllT w) (.sl (.int .i64)) I [vI]) (h1 : okLen K.length) (h3 : okLen I.length) :
  Calls Try.prog 78 #[vK, vI] w fun e w' => ∃ v, e = .returned v ∧ NodeR w' w.heap.size v (false, K, [], I, ()) ∧ Below w.heap.size w w' := by
 have hev : Ev (fun k => F78 k K I) (((false, K, [], I, ()), ()), ((), (), ())) := Ev.step 2 (fun k => F78_eq k _ _) (Ev.bind (copy_ev h1 (Nat.zero_le _) h3) (Ev.now _))
 obtain ⟨k, hk⟩ := hev.get
 refine (ask_read (told k 78 (K, I, ()) (((false, K, [], I, ()), ()), ((), (), ())) hk) (args := [vK, vI]) ⟨[], [], rfl, ⟨hK, rfl⟩, [], [], rfl, ⟨hI, rfl⟩, rfl⟩ (glT _ _)).mono ?_
 rintro e w' ⟨rvs, rfp, rfl, hs, _, hf, hb⟩
 obtain ⟨v, rfl, hv⟩ := node_of (n := (false, K, [], I, ())) hs hf
 exact ⟨_, rfl, hv, hb⟩
end Go.Proofs.Ytcolgghllacloaa.R
end

section
namespace Go.Proofs.Ytcolgghllacloaa.Tm
open Go.Rf (RowIn strs ints rep nodeT ownL blk Src)
open Go.RowKit Go.Proofs.Ytcolgghllacloaa.Q Go.Proofs.YtcolgghllacloaaW.PrintWords Go.Proofs.YtcolgghllacloaaW.PrintLast Go.Proofs.YtcolgghllacloaaW.PrintMore
theorem RowIn.own {w : World} {B id : Nat} {v : Value} {l : List Value} (h : RowIn w B id v l) : ownL w id 1 v l.length l := by
 refine ⟨by simp, ?_⟩
 rcases h with ⟨rfl, rfl⟩ | ⟨g, cap, cur, rfl, _, hh, h1, h2, h3, h4⟩
 ·exact .inl ⟨rfl, rfl⟩
 ·exact .inr ⟨g, cap, cur, rfl, hh, h1, h2, by simpa using h3, by simpa using h4⟩
theorem rowIn_of {w : World} {B id n : Nat} {v : Value} {l : List Value} (h : ownL w id 1 v n l) (hb : ∀ b, blk v = some b → B ≤ b) : RowIn w B id v l := by
 have hn : l.length = n := by simpa using h.1
 subst hn
 rcases h.2 with ⟨rfl, h0⟩ | ⟨g, cap, cur, rfl, hh, h1, h2, h3, h4⟩
 ·exact .inl ⟨rfl, List.length_eq_zero_iff.1 h0⟩
 ·exact .inr ⟨g, cap, cur, rfl, hb g rfl, hh, h1, h2, by simpa using h3, by simpa using h4⟩
theorem step_app {P : Program} {w : World} {ops : Array Oper} {o : Oper} {a : Act} {K : Act → World → Prop} {Q : Exit → Act → World → Prop} {E : Prop} (hgd : o.guard = none) (s x : Operand) (t : TypeId)
  (ho : o.op = .call { callee := .builtin .append, args := #[s, x], argTypes := #[t, t] }) (e : TypeId) (i : TypeInfo) (z : Value) (ht : P.underlying t = some (.slice e)) (hi : P.info? e = some i) (hz : i.zero = some z) (hzs : z.cells.size = i.size)
  (v : Value) (n : Nat) (xs : List Value) (hs : a.eval s = v) (hown : ownL w e i.size v n xs) (u : Value) (m : Nat) (news : List Value) (hx : a.eval x = u) (hsrc : Src P w i.size u m news) (h63 : n + m ≤ maxLen) (hbytes : (n + m) * i.bytes ≤ 140737488355328)
  (h : ∀ v' w', ownL w' e i.size v' (n + m) (xs ++ news) → w.grownBy w' (blk v) → (∀ b, blk v' = some b → blk v = some b ∨ w.heap.size ≤ b) → (∃ A c, v' = .slice A (n + m) c) → K (a.put o.dst v') w') :
  if Region.wanted o (yielded ops a.tmps) = true then Oper.wp P o a w K Q else E := by
 have hw : Region.wanted o (yielded ops a.tmps) = true := by simp [Region.wanted, hgd]
 rw [if_pos hw]
 obtain ⟨v', w', hr, h2, h3, h4, h5⟩ := Go.Rf.run_append_gen (P := P) (ty := o.type) ht ht (.inl ⟨_, rfl⟩) hi hz hzs hown hsrc h63 hbytes
 unfold Oper.wp execOp
 simp only [ho, resolve, invoke, builtin, Sem.run_bind, Sem.run_pure, Result.andThen_ok, List.map_toArray, List.map_cons, List.map_nil, hs, hx, hr]
 exact h v' w' h2 h3 h4 h5
theorem info_str : (Try.prog.info? 9).map (fun i => (i.zero, i.size, i.bytes)) = some (some (.string ⟨#[]⟩), 1, 16) := by kernel_rfl
theorem info_int : (Try.prog.info? 3).map (fun i => (i.zero, i.size, i.bytes)) = some (some (.int .i64 0), 1, 8) := by kernel_rfl
theorem info_node : (Try.prog.info? 72).map (fun i => (i.zero, i.size, i.bytes)) = some (some (.agg #[.bool false, .slice none 0 0, .slice none 0 0, .slice none 0 0]), 4, 80) := by kernel_rfl
theorem info_split {P : Program} {t : TypeId} {z : Value} {n b : Nat} (h : (P.info? t).map (fun i => (i.zero, i.size, i.bytes)) = some (some z, n, b)) : ∃ i, P.info? t = some i ∧ i.zero = some z ∧ i.size = n ∧ i.bytes = b := by
 cases hi : P.info? t with
 | none => rw [hi] at h; cases h
 | some i =>
  rw [hi] at h
  simp only [Option.map_some, Option.some.injEq, Prod.mk.injEq] at h
  exact ⟨i, rfl, h.1, h.2.1, h.2.2⟩
def SlAt (w : World) (v : Value) (l : List Value) : Prop := ∃ A c, v = .slice A l.length c ∧ l.length ≤ c ∧ (∀ j u, l[j]? = some u → ∃ a, A = some a ∧ a.spot = none ∧ w.cell? (a.add j) = some u) ∧ (∀ u ∈ l, u.oneCell' = true)
theorem RowIn.sl {w : World} {B id : Nat} {v : Value} {l : List Value} (h : RowIn w B id v l) (h1 : ∀ u ∈ l, u.oneCell' = true) : SlAt w v l := by
 have hh := h
 rcases hh with ⟨rfl, rfl⟩ | ⟨g, cap, cur, rfl, hb, hc, hlc, r⟩
 ·exact ⟨_, _, rfl, Nat.le_refl _, fun j u hj => by simp at hj, h1⟩
 ·refine ⟨some ⟨g, 0, none⟩, cap, rfl, hlc, fun j u hj => ⟨_, rfl, rfl, ?_⟩, h1⟩
  obtain ⟨g', cap', e, hcell⟩ := h.cell hj
  injection e with e1
  injection e1 with e1
  injection e1 with e1
  subst e1
  rw [Go.Rf.add_mk]
  exact hcell
theorem SlAt.src {P : Program} {w : World} {v : Value} {l : List Value} (h : SlAt w v l) : Src P w 1 v l.length l := by
 obtain ⟨A, c, rfl, hlc, hc, h1⟩ := h
 cases A with
 | none =>
  have : l = [] := by
   cases l with
   | nil => rfl
   | cons u l => obtain ⟨a, ha, _⟩ := hc 0 u rfl; cases ha
  subst this
  exact ⟨fun _ => rfl, rfl, rfl, rfl, by simp⟩
 | some a =>
  have hh : ∀ j u, l[j]? = some u → w.cell? (a.add j) = some u := fun j u hj => by
   obtain ⟨b, e, _, h⟩ := hc j u hj
   obtain rfl := Option.some.inj e
   exact h
  exact ⟨fun _ => rfl, run_firstCells_some (P := P) w 1 l.length a l.length c l (by simp) hh, run_firstCells_some (P := P) w.drew 1 l.length a l.length c l (by simp) (fun j u hj => by rw [World.cell?_drew]; exact hh j u hj), by simp, h1⟩
theorem SlAt.keep {w w' : World} {v : Value} {l : List Value} (h : SlAt w v l) (hk : ∀ x, blk v = some x → w'.heap[x]? = w.heap[x]?) : SlAt w' v l := by
 obtain ⟨A, c, rfl, hlc, hc, h1⟩ := h
 refine ⟨A, c, rfl, hlc, fun j u hj => ?_, h1⟩
 obtain ⟨a, rfl, hs, hcell⟩ := hc j u hj
 exact ⟨a, rfl, hs, (World.cell?_of_block (by rw [Go.Rf.add_block]; exact hk _ rfl)).trans hcell⟩
theorem SlAt.take {w : World} {A : Option Addr} {n c : Nat} {l : List Value} (h : SlAt w (.slice A n c) l) {i : Nat} (hi : i ≤ l.length) : SlAt w (.slice A i c) (l.take i) := by
 obtain ⟨A', c', e, hlc, hc, h1⟩ := h
 injection e with e1 e2 e3
 subst e1 e2 e3
 refine ⟨A, c, by rw [List.length_take, Nat.min_eq_left hi], by rw [List.length_take]; omega, fun j u hj => ?_, fun u hu => h1 u (List.mem_of_mem_take hu)⟩
 have hji : j < i := by have := (List.getElem?_eq_some_iff.1 hj).1; rw [List.length_take] at this; omega
 rw [List.getElem?_take_of_lt hji] at hj
 exact hc j u hj
theorem SlAt.drop {w : World} {b n c : Nat} {l : List Value} (h : SlAt w (.slice (some ⟨b, 0, none⟩) n c) l) {i : Nat} (hi : i ≤ l.length) : SlAt w (.slice (if c = i then some ⟨b, 0, none⟩ else some ⟨b, i, none⟩) (n - i) (c - i)) (l.drop i) := by
 obtain ⟨A', c', e, hlc, hc, h1⟩ := h
 injection e with e1 e2 e3
 subst e1 e2 e3
 refine ⟨_, _, by rw [List.length_drop], by rw [List.length_drop]; omega, fun j u hj => ?_, fun u hu => h1 u (List.mem_of_mem_drop hu)⟩
 rw [List.getElem?_drop] at hj
 have hlt := (List.getElem?_eq_some_iff.1 hj).1
 obtain ⟨a, e, hs, hcell⟩ := hc _ u hj
 obtain rfl := Option.some.inj e
 rw [if_neg (by omega)]
 refine ⟨_, rfl, rfl, ?_⟩
 rw [Go.Rf.add_mk] at hcell
 have : (⟨b, i, none⟩ : Addr).add j = ⟨b, i + j, none⟩ := by unfold Addr.add; split <;> simp_all
 rw [this]
 exact hcell
theorem SlAt.srep {w : World} {v : Value} {l : List ByteArray} (h : SlAt w v (strs l)) : Go.Rf.rep w (fun b => b < w.heap.size) (.sl .str) l [v] := by
 obtain ⟨A, c, rfl, hlc, hc, _⟩ := h
 rw [List.length_map] at hlc ⊢
 refine ⟨A, c, strs l, rfl, hlc, Go.Rf.reps_of_map (e := .str) (f := Value.string) (fun _ => rfl) l, fun j u hj => ?_⟩
 obtain ⟨a, h1, h2, h3⟩ := hc j u hj
 exact ⟨a, h1, h2, by have := World.block_lt_of_cell? w _ h3; rwa [Go.Rf.add_block] at this, h3⟩
theorem SlAt.irep {w : World} {v : Value} {l : List Int} (h : SlAt w v (ints l)) : Go.Rf.rep w (fun b => b < w.heap.size) (.sl (.int .i64)) l [v] := by
 obtain ⟨A, c, rfl, hlc, hc, _⟩ := h
 rw [List.length_map] at hlc ⊢
 refine ⟨A, c, ints l, rfl, hlc, Go.Rf.reps_of_map (e := .int .i64) (f := Value.int .i64) (fun _ => rfl) l, fun j u hj => ?_⟩
 obtain ⟨a, h1, h2, h3⟩ := hc j u hj
 exact ⟨a, h1, h2, by have := World.block_lt_of_cell? w _ h3; rwa [Go.Rf.add_block] at this, h3⟩
theorem RowIn.block {w : World} {B id : Nat} {v : Value} {l : List Value} (h : RowIn w B id v l) (hl : 0 < l.length) : ∃ b c, v = .slice (some ⟨b, 0, none⟩) l.length c ∧ b < w.heap.size ∧ l.length ≤ c ∧ c ≤ maxLen := by
 rcases h with ⟨rfl, rfl⟩ | ⟨g, cap, cur, rfl, _, hh, h1, h2, _⟩
 ·simp at hl
 ·exact ⟨g, cap, rfl, lt_of_block hh, h1, h2⟩
theorem strs_one (l : List ByteArray) : ∀ u ∈ strs l, u.oneCell' = true := by
 intro u hu
 obtain ⟨x, _, rfl⟩ := List.mem_map.1 hu
 rfl
theorem ints_one (l : List Int) : ∀ u ∈ ints l, u.oneCell' = true := by
 intro u hu
 obtain ⟨x, _, rfl⟩ := List.mem_map.1 hu
 rfl
end Go.Proofs.Ytcolgghllacloaa.Tm
end

section
namespace Go.Proofs.Ytcolgghllacloaa.Tm
open Go.Rf (RowIn strs ints rep nodeT ownL blk Src)
open Go.RowKit Go.Proofs.Ytcolgghllacloaa.Q Go.Proofs.YtcolgghllacloaaW.PrintWords Go.Proofs.YtcolgghllacloaaW.PrintLast Go.Proofs.YtcolgghllacloaaW.PrintMore
theorem own_new (w : World) (t : TypeId) : ownL (w.alloc (.cells #[] t)) t 1 (.slice (some ⟨w.heap.size, 0, none⟩) 0 0) 0 [] :=
 ⟨rfl, .inr ⟨w.heap.size, 0, #[], rfl, CellsAt.new w t #[], Nat.le_refl _, by simp [maxLen], by simp, rfl⟩⟩
set_option maxRecDepth 100000 in
set_option maxHeartbeats 4000000 in
theorem out_any (w : World) (B : Nat) (v : Value) (i : Nat) (l : List ByteArray) (h : RowIn w B 9 v (strs l)) (hl : l.length ≤ 1048576) (hi : i < l.length) :
  Calls Try.prog 89 #[v, .int .i64 (i : Int)] w fun e w' => ∃ u, e = .returned u ∧ RowIn w' w.heap.size 9 u (strs (l.eraseIdx i)) ∧ Below w.heap.size w w' := by
 obtain ⟨i0, hi0, hz0, hz1, hz2⟩ := info_split info_str
 have hlen : (strs l).length = l.length := List.length_map _
 obtain ⟨b, c, rfl, hb, hc, hcm⟩ := RowIn.block h (by rw [hlen]; omega)
 have H := Aside0.mk (RowIn.sl h (strs_one l))
 have HB := Aside0.mk hb
 rw [hlen] at H hc ⊢
 have bi0 : (0 : Int) ≤ (i : Int) := by omega
 have bi : (i : Int) ≤ (l.length : Int) := by omega
 have bi1 : (i : Int) + 1 ≤ (l.length : Int) := by omega
 have bi2 : (0 : Int) ≤ (i : Int) + 1 := by omega
 have bc : (i : Int) ≤ (c : Int) := by omega
 have bc1 : (i : Int) + 1 ≤ (c : Int) := by omega
 have bc2 : (l.length : Int) ≤ (c : Int) := by omega
 have ew : IntKind.i64.wrap ((i : Int) + 1) = (i : Int) + 1 := Go.Rf.wrap64 (by omega) (by omega)
 clear h hb
 go_enter Try.func89, Try.ntmps89
 go_wp2_with fail
 have t1 : strs (l.take i) = (strs l).take i := List.map_take
 have t2 : strs (l.drop (i + 1)) = (strs l).drop (i + 1) := List.map_drop
 have e1 : (strs (l.take i)).length = i := by rw [List.length_map, List.length_take]; omega
 have e2 : (strs (l.drop (i + 1))).length = l.length - (i + 1) := by rw [List.length_map, List.length_drop]
 have O1 : ownL (w.drew.alloc (.cells #[] 9)) 9 i0.size (.slice (some ⟨w.heap.size, 0, none⟩) 0 0) 0 [] := by rw [hz1]; exact own_new w.drew _
 have K1 : SlAt (w.drew.alloc (.cells #[] 9)) (.slice (some ⟨b, 0, none⟩) l.length c) (strs l) := H.out.keep (fun x hx => Below.heap_alloc w.drew _ x (by have := HB.out; simp [Go.Rf.blk] at hx; subst hx; exact this))
 have S1 : Src Try.prog (w.drew.alloc (.cells #[] 9)) i0.size (.slice (some ⟨b, 0, none⟩) i c) i (strs (l.take i)) := by
  have := (K1.take (i := i) (by rw [hlen]; omega)).src (P := Try.prog)
  rw [← t1, e1] at this
  rw [hz1]
  exact this
 go_region_held3 (fun _ => True) (first | exact trivial) (first | (refine step_app rfl (.tmp 5) (.tmp 8) 62 rfl 9 i0 (.string ⟨#[]⟩) Try.underlying62 hi0 hz0 (by rw [hz1]; rfl) (.slice (some ⟨w.heap.size, 0, none⟩) 0 0) 0 [] rfl O1 (.slice (some ⟨b, 0, none⟩) i c) i (strs (l.take i)) rfl S1 (by unfold maxLen; omega) (by rw [hz2]; omega) ?_; intro v2 w2 own2 gr2 bk2 fm2; obtain ⟨A2, c2, fm2⟩ := fm2; rw [Nat.zero_add] at own2 fm2; subst fm2; have G2 : Below w.heap.size w w2 := Below.grown ((below_drew w).alloc (by simp) _) gr2 (by simp) (fun j hj => by simp [Go.Rf.blk] at hj; omega); have L2 : ∀ x, Go.Rf.blk (.slice A2 i c2) = some x → w.heap.size ≤ x := fun x hx => (bk2 x hx).elim (fun e => by simp [Go.Rf.blk] at e; omega) (fun e => by simp at e; omega); have S2 : Src Try.prog w2 i0.size (.slice (if c = i + 1 then some ⟨b, 0, none⟩ else some ⟨b, i + 1, none⟩) (l.length - (i + 1)) (c - (i + 1))) (l.length - (i + 1)) (strs (l.drop (i + 1))) := (by have := ((H.out.keep (w' := w2) (fun x hx => G2.block x (by have := HB.out; simp [Go.Rf.blk] at hx; subst hx; exact this))).drop (i := i + 1) (by rw [hlen]; omega)).src (P := Try.prog); rw [← t2, e2] at this; rw [hz1]; exact this); clear O1 K1 S1 gr2 bk2) | (refine step_app rfl (.tmp 9) (.tmp 13) 62 rfl 9 i0 (.string ⟨#[]⟩) Try.underlying62 hi0 hz0 (by rw [hz1]; rfl) (.slice A2 i c2) _ _ rfl own2 (.slice (if c = i + 1 then some ⟨b, 0, none⟩ else some ⟨b, i + 1, none⟩) (l.length - (i + 1)) (c - (i + 1))) (l.length - (i + 1)) (strs (l.drop (i + 1))) (by first | rfl | simp) S2 (by unfold maxLen; omega) (by rw [hz2]; omega) ?_; intro v3 w3 own3 gr3 bk3 fm3; obtain ⟨A3, c3, fm3⟩ := fm3; have en : i + (l.length - (i + 1)) = l.length - 1 := (by omega); rw [en] at own3 fm3; subst fm3))
 all_goals go_wp2
 all_goals go_ret
 all_goals (
 have er : l.eraseIdx i = l.take i ++ l.drop (i + 1) := List.eraseIdx_eq_take_drop_succ _ _
 refine ⟨_, rfl, rowIn_of (n := l.length - 1) ?_ (fun x hx => (bk3 x hx).elim (fun e => L2 x e) (fun e => Nat.le_trans G2.size e)), Below.grown G2 gr3 G2.size (fun j hj => L2 j hj)⟩
 rw [hz1, List.nil_append] at own3
 rw [er, show strs (l.take i ++ l.drop (i + 1)) = strs (l.take i) ++ strs (l.drop (i + 1)) from List.map_append]
 exact own3)
set_option maxRecDepth 100000 in
set_option maxHeartbeats 4000000 in
theorem outNum_any (w : World) (B : Nat) (v : Value) (i : Nat) (l : List Int) (h : RowIn w B 3 v (ints l)) (hl : l.length ≤ 1048576) (hi : i < l.length) :
  Calls Try.prog 101 #[v, .int .i64 (i : Int)] w fun e w' => ∃ u, e = .returned u ∧ RowIn w' w.heap.size 3 u (ints (l.eraseIdx i)) ∧ Below w.heap.size w w' := by
 obtain ⟨i0, hi0, hz0, hz1, hz2⟩ := info_split info_int
 have hlen : (ints l).length = l.length := List.length_map _
 obtain ⟨b, c, rfl, hb, hc, hcm⟩ := RowIn.block h (by rw [hlen]; omega)
 have H := Aside0.mk (RowIn.sl h (ints_one l))
 have HB := Aside0.mk hb
 rw [hlen] at H hc ⊢
 have bi0 : (0 : Int) ≤ (i : Int) := by omega
 have bi : (i : Int) ≤ (l.length : Int) := by omega
 have bi1 : (i : Int) + 1 ≤ (l.length : Int) := by omega
 have bi2 : (0 : Int) ≤ (i : Int) + 1 := by omega
 have bc : (i : Int) ≤ (c : Int) := by omega
 have bc1 : (i : Int) + 1 ≤ (c : Int) := by omega
 have bc2 : (l.length : Int) ≤ (c : Int) := by omega
 have ew : IntKind.i64.wrap ((i : Int) + 1) = (i : Int) + 1 := Go.Rf.wrap64 (by omega) (by omega)
 clear h hb
 go_enter Try.func101, Try.ntmps101
 go_wp2_with fail
 have t1 : ints (l.take i) = (ints l).take i := List.map_take
 have t2 : ints (l.drop (i + 1)) = (ints l).drop (i + 1) := List.map_drop
 have e1 : (ints (l.take i)).length = i := by rw [List.length_map, List.length_take]; omega
 have e2 : (ints (l.drop (i + 1))).length = l.length - (i + 1) := by rw [List.length_map, List.length_drop]
 have O1 : ownL (w.drew.alloc (.cells #[] 3)) 3 i0.size (.slice (some ⟨w.heap.size, 0, none⟩) 0 0) 0 [] := by rw [hz1]; exact own_new w.drew _
 have K1 : SlAt (w.drew.alloc (.cells #[] 3)) (.slice (some ⟨b, 0, none⟩) l.length c) (ints l) := H.out.keep (fun x hx => Below.heap_alloc w.drew _ x (by have := HB.out; simp [Go.Rf.blk] at hx; subst hx; exact this))
 have S1 : Src Try.prog (w.drew.alloc (.cells #[] 3)) i0.size (.slice (some ⟨b, 0, none⟩) i c) i (ints (l.take i)) := by
  have := (K1.take (i := i) (by rw [hlen]; omega)).src (P := Try.prog)
  rw [← t1, e1] at this
  rw [hz1]
  exact this
 go_region_held3 (fun _ => True) (first | exact trivial) (first | (refine step_app rfl (.tmp 5) (.tmp 8) 65 rfl 3 i0 (.int .i64 0) Try.underlying65 hi0 hz0 (by rw [hz1]; rfl) (.slice (some ⟨w.heap.size, 0, none⟩) 0 0) 0 [] rfl O1 (.slice (some ⟨b, 0, none⟩) i c) i (ints (l.take i)) rfl S1 (by unfold maxLen; omega) (by rw [hz2]; omega) ?_; intro v2 w2 own2 gr2 bk2 fm2; obtain ⟨A2, c2, fm2⟩ := fm2; rw [Nat.zero_add] at own2 fm2; subst fm2; have G2 : Below w.heap.size w w2 := Below.grown ((below_drew w).alloc (by simp) _) gr2 (by simp) (fun j hj => by simp [Go.Rf.blk] at hj; omega); have L2 : ∀ x, Go.Rf.blk (.slice A2 i c2) = some x → w.heap.size ≤ x := fun x hx => (bk2 x hx).elim (fun e => by simp [Go.Rf.blk] at e; omega) (fun e => by simp at e; omega); have S2 : Src Try.prog w2 i0.size (.slice (if c = i + 1 then some ⟨b, 0, none⟩ else some ⟨b, i + 1, none⟩) (l.length - (i + 1)) (c - (i + 1))) (l.length - (i + 1)) (ints (l.drop (i + 1))) := (by have := ((H.out.keep (w' := w2) (fun x hx => G2.block x (by have := HB.out; simp [Go.Rf.blk] at hx; subst hx; exact this))).drop (i := i + 1) (by rw [hlen]; omega)).src (P := Try.prog); rw [← t2, e2] at this; rw [hz1]; exact this); clear O1 K1 S1 gr2 bk2) | (refine step_app rfl (.tmp 9) (.tmp 13) 65 rfl 3 i0 (.int .i64 0) Try.underlying65 hi0 hz0 (by rw [hz1]; rfl) (.slice A2 i c2) _ _ rfl own2 (.slice (if c = i + 1 then some ⟨b, 0, none⟩ else some ⟨b, i + 1, none⟩) (l.length - (i + 1)) (c - (i + 1))) (l.length - (i + 1)) (ints (l.drop (i + 1))) (by first | rfl | simp) S2 (by unfold maxLen; omega) (by rw [hz2]; omega) ?_; intro v3 w3 own3 gr3 bk3 fm3; obtain ⟨A3, c3, fm3⟩ := fm3; have en : i + (l.length - (i + 1)) = l.length - 1 := (by omega); rw [en] at own3 fm3; subst fm3))
 all_goals go_wp2
 all_goals go_ret
 all_goals (
 have er : l.eraseIdx i = l.take i ++ l.drop (i + 1) := List.eraseIdx_eq_take_drop_succ _ _
 refine ⟨_, rfl, rowIn_of (n := l.length - 1) ?_ (fun x hx => (bk3 x hx).elim (fun e => L2 x e) (fun e => Nat.le_trans G2.size e)), Below.grown G2 gr3 G2.size (fun j hj => L2 j hj)⟩
 rw [hz1, List.nil_append] at own3
 rw [er, show ints (l.take i ++ l.drop (i + 1)) = ints (l.take i) ++ ints (l.drop (i + 1)) from List.map_append]
 exact own3)
end Go.Proofs.Ytcolgghllacloaa.Tm
end

section
namespace Go.Proofs.Ytcolgghllacloaa.Tm
open Go.Rf (RowIn strs ints rep nodeT ownL blk Src)
open Go.RowKit Go.Proofs.Ytcolgghllacloaa.Q Go.Proofs.YtcolgghllacloaaW.PrintWords Go.Proofs.YtcolgghllacloaaW.PrintLast Go.Proofs.YtcolgghllacloaaW.PrintMore
abbrev nd0 : Nd := (false, [], [], [], ())
abbrev leaf0 : Nd := (true, [], [], [], ())
theorem ti_zero {w : World} {B g : Nat} {cur : Array Value} {N : List Nd} (hc : CellsAt w g 72 cur) (hs : N.length * 4 ≤ cur.size) (hB : B ≤ g) (hN : ∀ (i : Nat) n, N[i]? = some n → n = nd0) (hz : ∀ i, i < N.length → cur[i * 4]? = some (.bool false) ∧ cur[i * 4 + 1]? = some (.slice none 0 0) ∧ cur[i * 4 + 2]? = some (.slice none 0 0) ∧ cur[i * 4 + 3]? = some (.slice none 0 0)) : TI w B g N := by
 refine ⟨cur, hc, hs, hB, fun i n hn => ?_⟩
 obtain rfl := hN i n hn
 obtain ⟨z0, z1, z2, z3⟩ := hz i (List.getElem?_eq_some_iff.1 hn).1
 exact ⟨_, _, _, z0, z1, z2, z3, .inl ⟨rfl, rfl⟩, .inl ⟨rfl, rfl⟩, .inl ⟨rfl, rfl⟩⟩
theorem flat_rep4 {cur : Array Value} {n : Nat} (h : cur.toList.take (n * 4) = (List.replicate n [Value.bool false, .slice none 0 0, .slice none 0 0, .slice none 0 0]).flatten) : ∀ i, i < n → cur[i * 4]? = some (.bool false) ∧ cur[i * 4 + 1]? = some (.slice none 0 0) ∧ cur[i * 4 + 2]? = some (.slice none 0 0) ∧ cur[i * 4 + 3]? = some (.slice none 0 0) := by
 have key : ∀ (m i : Nat), i < m → ∀ j, j < 4 → ((List.replicate m [Value.bool false, .slice none 0 0, .slice none 0 0, .slice none 0 0]).flatten)[i * 4 + j]? = [Value.bool false, .slice none 0 0, .slice none 0 0, .slice none 0 0][j]? := by
  intro m
  induction m with
  | zero => intro i hi; omega
  | succ m ih =>
   intro i hi j hj
   rw [List.replicate_succ, List.flatten_cons]
   cases i with
   | zero => rw [List.getElem?_append_left (by simp; omega)]; simp
   | succ i =>
    rw [List.getElem?_append_right (by simp; omega)]
    rw [show (i + 1) * 4 + j - [Value.bool false, .slice none 0 0, .slice none 0 0, .slice none 0 0].length = i * 4 + j by simp; omega]
    exact ih i (by omega) j hj
 intro i hi
 have get : ∀ j, j < 4 → cur[i * 4 + j]? = [Value.bool false, .slice none 0 0, .slice none 0 0, .slice none 0 0][j]? := fun j hj => by
  rw [← key n i hi j hj, ← h, List.getElem?_take_of_lt (by omega)]
  simp
 exact ⟨get 0 (by omega), get 1 (by omega), get 2 (by omega), get 3 (by omega)⟩
theorem made_cells {w : World} {base g n : Nat} (h : w.ownsRow base 72 4 (.slice (some ⟨g, 0, none⟩) n n) n (madeCells (Value.agg #[.bool false, .slice none 0 0, .slice none 0 0, .slice none 0 0]).cells (n * 4)).toList) :
  ∃ cur, CellsAt w g 72 cur ∧ n * 4 ≤ cur.size ∧ ∀ i, i < n → cur[i * 4]? = some (.bool false) ∧ cur[i * 4 + 1]? = some (.slice none 0 0) ∧ cur[i * 4 + 2]? = some (.slice none 0 0) ∧ cur[i * 4 + 3]? = some (.slice none 0 0) := by
 rcases h.2 with ⟨h0, _⟩ | ⟨x, cap, cur, h0, _, hg, _, _, hcs, ht⟩
 ·cases h0
 ·injection h0 with e1 e2 e3
  injection e1 with e1
  injection e1 with e1
  subst e1 e3
  refine ⟨cur, hg, Nat.le_of_eq hcs.symm, flat_rep4 ?_⟩
  rw [ht]
  have := Go.Rf.madeCells_take (z := (Value.agg #[.bool false, .slice none 0 0, .slice none 0 0, .slice none 0 0]).cells) (n := n) n (Nat.le_refl _)
  rw [List.take_of_length_le] at this
  ·exact this
  ·have hl : (madeCells (Value.agg #[.bool false, .slice none 0 0, .slice none 0 0, .slice none 0 0]).cells (n * 4)).toList.length = n * 4 := by
    rw [← ht, List.length_take, Array.length_toList, hcs]; simp
   exact Nat.le_of_eq hl
abbrev newW (w w1 : World) : World := w1.alloc (.cells #[.int .i64 0, .slice (some ⟨w.heap.size + 1, 0, none⟩) 19 19] 30)
theorem new_made {w w1 : World} {B : Nat} (hB : B ≤ w.heap.size) (hown : w1.ownsRow w.heap.size 72 4 (.slice (some ⟨(w.alloc (.cells #[.int .i64 0, .slice none 0 0] 30)).heap.size, 0, none⟩) 19 19) 19 (madeCells (Value.agg #[.bool false, .slice none 0 0, .slice none 0 0, .slice none 0 0]).cells (19 * 4)).toList)
  (hg : (w.alloc (.cells #[.int .i64 0, .slice none 0 0] 30)).grownBy w1 none) :
  TI (newW w w1) B (w.heap.size + 1) (List.replicate 19 nd0) ∧
  CellsAt (set4 (newW w w1) (w.heap.size + 1) 0 (.bool true) (.slice none 0 0) (.slice none 0 0) (.slice none 0 0)) w.heap.size 30 #[.int .i64 0, .slice none 0 0] ∧
  CellsAt (set4 (newW w w1) (w.heap.size + 1) 0 (.bool true) (.slice none 0 0) (.slice none 0 0) (.slice none 0 0)) w1.heap.size 30 #[.int .i64 0, .slice (some ⟨w.heap.size + 1, 0, none⟩) 19 19] ∧
  ((newW w w1).cell? ⟨w.heap.size + 1, 0, none⟩ = some (.bool false) ∧ (newW w w1).cell? ⟨w.heap.size + 1, 1, none⟩ = some (.slice none 0 0) ∧ (newW w w1).cell? ⟨w.heap.size + 1, 2, none⟩ = some (.slice none 0 0) ∧ (newW w w1).cell? ⟨w.heap.size + 1, 3, none⟩ = some (.slice none 0 0)) ∧
  Below w.heap.size w (newW w w1) ∧ w.heap.size + 1 < w1.heap.size := by
 have eg : (w.alloc (.cells #[.int .i64 0, .slice none 0 0] 30)).heap.size = w.heap.size + 1 := by simp
 rw [eg] at hown
 obtain ⟨cur, hc, hs, hz⟩ := made_cells hown
 have hb : Below w.heap.size w w1 := Below.grown ((Below.refl _ w).alloc (Nat.le_refl _) _) hg (by simp) (fun j hj => by cases hj)
 have T1 : TI w1 B (w.heap.size + 1) (List.replicate 19 nd0) := ti_zero hc (by simpa using hs) (by omega) (fun i n hn => (List.mem_replicate.1 (List.mem_of_getElem? hn)).2) (fun i hi => hz i (by simpa using hi))
 have hlt := hc.lt
 have R1 : CellsAt w1 w.heap.size 30 #[.int .i64 0, .slice none 0 0] := (hg.block w.heap.size (by simp) (fun e => by cases e)).trans (CellsAt.new w _ _)
 have c2 := hc.alloc (.cells #[.int .i64 0, .slice (some ⟨w.heap.size + 1, 0, none⟩) 19 19] 30)
 have z2 := hz 0 (by omega)
 refine ⟨T1.below ((Below.refl _ _).alloc (Nat.le_refl _) _), (set4_heap _ _ _ _ (by omega)).trans (R1.alloc _), (set4_heap _ _ _ _ (by omega)).trans (CellsAt.new _ _ _), ⟨(c2.cell 0).trans z2.1, (c2.cell 1).trans z2.2.1, (c2.cell 2).trans z2.2.2.1, (c2.cell 3).trans z2.2.2.2⟩, hb.alloc hb.size _, hlt⟩
set_option maxRecDepth 100000 in
set_option maxHeartbeats 4000000 in
theorem new_any (w : World) (B : Nat) (hB : B ≤ w.heap.size) :
  Calls Try.prog 64 #[] w fun e w' => ∃ g c, e = .returned (.agg #[.int .i64 0, .slice (some ⟨g, 0, none⟩) 19 c]) ∧ 19 ≤ c ∧ w.heap.size ≤ g ∧ TI w' B g (leaf0 :: List.replicate 18 nd0) ∧ Below w.heap.size w w' := by
 obtain ⟨i0, hi, hz0, hz1, hz2⟩ := info_split info_node
 have HB := Aside0.mk hB
 clear hB
 go_enter Try.func64, Try.ntmps64
 go_wp2_with (at_make; refine wpList_make_full _ rfl _ _ 28 rfl w.heap.size 72 i0 (.agg #[.bool false, .slice none 0 0, .slice none 0 0, .slice none 0 0]) 4 Try.underlying28 hi hz0 hz1 _ _ _ _ 19 rfl rfl rfl rfl (by rw [hz2]; omega) (by unfold maxLen; omega) (by simp) ?_; intro w1 hown1 hgrow1; obtain ⟨T2, R2, X2, F2, Z2⟩ := new_made HB.out hown1 hgrow1; have q0 := F2.1; have q1 := F2.2.1; have q2 := F2.2.2.1; have q3 := F2.2.2.2; have f0 := T2.frozen 0; have f1 := T2.frozen 1; have f2 := T2.frozen 2; have f3 := T2.frozen 3; have x0 := (X2.cell 0); have x1 := (X2.cell 1); have r0 := R2.cell 0; have r1 := R2.cell 1; have k0 := R2.frozen 0; have k1 := R2.frozen 1; simp only [List.getElem?_toArray, List.getElem?_cons_zero, List.getElem?_cons_succ] at x0 x1 r0 r1; have HT := Aside0.mk T2; have HR := Aside0.mk R2; have HZ := Aside0.mk Z2; clear hown1 hgrow1 F2 X2 T2 R2 Z2)
 have hT := (TI.set HT.out (i := 0) (by simp) (n := leaf0) (uK := .slice none 0 0) (uV := .slice none 0 0) (uI := .slice none 0 0) (.inl ⟨rfl, rfl⟩) (.inl ⟨rfl, rfl⟩) (.inl ⟨rfl, rfl⟩)).set2 HR.out (.int .i64 0) (.slice (some ⟨w.heap.size + 1, 0, none⟩) 19 19)
 refine bodyPost_ret (results_cell_row (P := Try.prog) (show Try.f64.results = #[.cell 0 30] from rfl) _ _ _ _ _ _ _ rfl (HR.out.set2 (.int .i64 0) (.slice (some ⟨w.heap.size + 1, 0, none⟩) 19 19)) Try.underlying30 rfl (by kernel_rfl)) rfl ?_
 have hb := HZ.out.1
 exact ⟨w.heap.size + 1, 19, rfl, Nat.le_refl _, by omega, hT, (((((hb.setCell (by show w.heap.size ≤ w.heap.size + 1; omega) _).setCell (by show w.heap.size ≤ w.heap.size + 1; omega) _).setCell (by show w.heap.size ≤ w.heap.size + 1; omega) _).setCell (by show w.heap.size ≤ w.heap.size + 1; omega) _).setCell (Nat.le_refl _) _).setCell (Nat.le_refl _) _⟩
end Go.Proofs.Ytcolgghllacloaa.Tm
end

section
namespace Go.Proofs.Ytcolgghllacloaa.Tm
open Go.Rf (RowIn strs ints rep nodeT ownL blk Src)
open Go.Proofs.Ytcolgghllacloaa.R (okNode okLen NodeR)
open Go.RowKit Go.Proofs.Ytcolgghllacloaa.Q Go.Proofs.YtcolgghllacloaaW.PrintWords Go.Proofs.YtcolgghllacloaaW.PrintLast Go.Proofs.YtcolgghllacloaaW.PrintMore
theorem RowIn.grown {w w' : World} {B id : Nat} {v : Value} {l : List Value} (h : RowIn w B id v l) {row : Option Nat} (hg : w.grownBy w' row) (hn : ∀ x, blk v = some x → row ≠ some x) : RowIn w' B id v l :=
 h.keep fun x hx => hg.block x (h.blk hx).2 (fun e => hn x hx e.symm)
structure CpAt (w W : World) (root : Int) (g0 c0 : Nat) (N : List Nd) (i : Nat) : Prop where
 below : Below w.heap.size w W
 t : CellsAt W w.heap.size 30 #[.int .i64 root, .slice (some ⟨g0, 0, none⟩) N.length c0]
 r : CellsAt W (w.heap.size + 1) 30 #[.int .i64 0, .slice none 0 0]
 o : ∃ vO xs, CellsAt W (w.heap.size + 1 + 1) 30 #[.int .i64 root, vO] ∧ ownL W 72 4 vO i xs ∧ (∀ x, blk vO = some x → w.heap.size + 3 ≤ x ∧ x < W.heap.size) ∧ (∃ A c, vO = .slice A i c) ∧ ∀ (k : Nat) n, N[k]? = some n → k < i → NdC W w.heap.size xs.toArray (k * 4) n
theorem src_four {P : Program} (w : World) (a b c d : Value) (t : TypeId) (h : ∀ u ∈ [a, b, c, d], u.oneCell' = true) : Src P (w.alloc (.cells #[a, b, c, d] t)) 4 (.slice (some ⟨w.heap.size, 0, none⟩) 1 1) 1 [a, b, c, d] := by
 have hc : ∀ j u, [a, b, c, d][j]? = some u → (w.alloc (.cells #[a, b, c, d] t)).cell? ((⟨w.heap.size, 0, none⟩ : Addr).add j) = some u := fun j u hj => by
  rw [Go.Rf.add_mk, (CellsAt.new w t #[a, b, c, d]).cell]
  simpa using hj
 exact ⟨fun _ => rfl, run_firstCells_some (P := P) _ 4 1 _ 1 1 _ rfl hc, run_firstCells_some (P := P) _ 4 1 _ 1 1 _ rfl (fun j u hj => by rw [World.cell?_drew]; exact hc j u hj), rfl, h⟩
theorem CpAt.step {w W W3 W5 : World} {root : Int} {g0 c0 : Nat} {N : List Nd} {i : Nat} {n : Nd} (hi : N[i]? = some n) {vO : Value} {xs : List Value} (h : CpAt w W root g0 c0 N i)
  (ho : CellsAt W (w.heap.size + 1 + 1) 30 #[.int .i64 root, vO]) (hown : ownL W 72 4 vO i xs) (hvO : ∀ x, blk vO = some x → w.heap.size + 3 ≤ x ∧ x < W.heap.size) (hN : ∀ (k : Nat) n, N[k]? = some n → k < i → NdC W w.heap.size xs.toArray (k * 4) n)
  (m3 : Below W.heap.size W W3) {uK uV uI : Value} (rK : RowIn W3 w.heap.size 9 uK (strs n.2.1)) (rV : RowIn W3 w.heap.size 9 uV (strs n.2.2.1)) (rI : RowIn W3 w.heap.size 3 uI (ints n.2.2.2.1))
  {v5 : Value} (own5 : ownL W5 72 4 v5 (i + 1) (xs ++ [.bool n.1, uK, uV, uI])) (g5 : (W3.alloc (.cells #[.bool n.1, uK, uV, uI] 72)).grownBy W5 (blk vO)) (b5 : ∀ x, blk v5 = some x → blk vO = some x ∨ (W3.alloc (.cells #[.bool n.1, uK, uV, uI] 72)).heap.size ≤ x) (f5 : ∃ A c, v5 = .slice A (i + 1) c) :
  CpAt w (W5.setCell ⟨w.heap.size + 1 + 1, 1, none⟩ v5) root g0 c0 N (i + 1) := by
 have hsz := h.below.size
 have hlo := ho.lt
 have m3z := m3.size
 have a3 : ∀ x, x < W.heap.size → (W3.alloc (.cells #[.bool n.1, uK, uV, uI] 72)).heap[x]? = W.heap[x]? := fun x hx => (Below.heap_alloc _ _ _ (by omega)).trans (m3.block x hx)
 have far : ∀ x, x < w.heap.size + 3 → x < W.heap.size → W5.heap[x]? = W.heap[x]? := fun x h1 h2 => (g5.block x (by simp; omega) (fun e => by have := (hvO x e.symm).1; omega)).trans (a3 x h2)
 have hlt5 : W3.heap.size + 1 ≤ W5.heap.size := by have := g5.size; simpa using this
 have typ : ∀ {id : Nat} {v : Value} {l : List Value}, RowIn W3 w.heap.size id v l → id ≠ 72 → id ≠ 30 → RowIn (W5.setCell ⟨w.heap.size + 1 + 1, 1, none⟩ v5) w.heap.size id v l := by
  intro id v l r h1 h2
  have r4 : RowIn (W3.alloc (.cells #[.bool n.1, uK, uV, uI] 72)) w.heap.size id v l := r.keep fun x hx => Below.heap_alloc _ _ _ (r.blk hx).2
  have r5 : RowIn W5 w.heap.size id v l := RowIn.grown r4 g5 fun x hx e => by
   rcases hown.2 with ⟨rfl, _⟩ | ⟨gg, cap, cur, rfl, hh, _⟩
   ·cases e
   ·obtain rfl : gg = x := by simpa [Go.Rf.blk] using e
    exact RowIn.ne r4 (g := gg) (t := 72) (cs := cur) ((a3 gg (lt_of_block hh)).trans hh) h1 gg hx rfl
  have c5 : CellsAt W5 (w.heap.size + 1 + 1) 30 #[.int .i64 root, vO] := (far _ (by omega) hlo).trans ho
  exact r5.keep fun x hx => Below.heap_setCell _ _ _ _ (RowIn.ne r5 c5 h2 x hx)
 have b5' : ∀ x, blk v5 = some x → w.heap.size + 3 ≤ x ∧ x < W5.heap.size := fun x hx => by
  refine ⟨(b5 x hx).elim (fun e => (hvO x e).1) (fun e => by simp at e; omega), Go.Rf.ownL_lt own5 x hx⟩
 refine ⟨((Below.grown ((h.below.trans (m3.mono hsz)).alloc (by omega) _) g5 (by simp; omega) (fun j hj => by have := (hvO j hj).1; omega))).setCell (by show w.heap.size ≤ w.heap.size + 1 + 1; omega) _, ?_, ?_, v5, xs ++ [.bool n.1, uK, uV, uI], ?_, ?_, fun x hx => ⟨(b5' x hx).1, by simpa using (b5' x hx).2⟩, f5, ?_⟩
 ·exact CellsAt.other ((far _ (by omega) h.t.lt).trans h.t) (by omega) _
 ·exact CellsAt.other ((far _ (by omega) h.r.lt).trans h.r) (by omega) _
 ·have c5 : CellsAt W5 (w.heap.size + 1 + 1) 30 #[.int .i64 root, vO] := (far _ (by omega) hlo).trans ho
  exact c5.set 1 v5
 ·exact Go.Rf.ownL_heap own5 fun x hx => Below.heap_setCell _ _ _ _ (by have := (b5' x hx).1; simp; omega)
 ·have hxl : xs.length = i * 4 := hown.1
  intro k m hm hk
  rcases Nat.lt_or_ge k i with hki | hki
  ·obtain ⟨vK, vV, vI, e0, e1, e2, e3, sK, sV, sI⟩ := hN k m hm hki
   have get : ∀ j u, j < 4 → xs.toArray[k * 4 + j]? = some u → (xs ++ [.bool n.1, uK, uV, uI]).toArray[k * 4 + j]? = some u := fun j u hj hu => by
    simp only [List.getElem?_toArray] at hu ⊢
    rw [List.getElem?_append_left (by omega)]
    exact hu
   exact ⟨vK, vV, vI, get 0 _ (by omega) e0, get 1 _ (by omega) e1, get 2 _ (by omega) e2, get 3 _ (by omega) e3, typ (sK.below m3) (by decide) (by decide), typ (sV.below m3) (by decide) (by decide), typ (sI.below m3) (by decide) (by decide)⟩
  ·obtain rfl : k = i := by omega
   rw [hi] at hm
   obtain rfl := Option.some.inj hm
   have get : ∀ j, j < 4 → (xs ++ [.bool n.1, uK, uV, uI]).toArray[k * 4 + j]? = [Value.bool n.1, uK, uV, uI][j]? := fun j hj => by
    simp only [List.getElem?_toArray]
    rw [List.getElem?_append_right (by omega), show k * 4 + j - xs.length = j by omega]
   exact ⟨uK, uV, uI, get 0 (by omega), get 1 (by omega), get 2 (by omega), get 3 (by omega), typ rK (by decide) (by decide), typ rV (by decide) (by decide), typ rI (by decide) (by decide)⟩
theorem CpAt.done {w W : World} {root : Int} {g0 c0 : Nat} {N : List Nd} (h : CpAt w W root g0 c0 N N.length) (h0 : 0 < N.length) : ∃ g c, CellsAt W (w.heap.size + 1 + 1) 30 #[.int .i64 root, .slice (some ⟨g, 0, none⟩) N.length c] ∧ N.length ≤ c ∧ w.heap.size + 3 ≤ g ∧ TI W w.heap.size g N := by
 obtain ⟨vO, xs, ho, hown, hb, _, hN⟩ := h.o
 rcases hown.2 with ⟨_, h1⟩ | ⟨g, cap, cur, rfl, hh, h1, h2, h3, h4⟩
 ·omega
 ·refine ⟨g, cap, ho, h1, (hb g rfl).1, cur, hh, by omega, by have := (hb g rfl).1; omega, fun i n hn => ?_⟩
  have hi := (List.getElem?_eq_some_iff.1 hn).1
  obtain ⟨vK, vV, vI, e0, e1, e2, e3, r⟩ := hN i n hn hi
  have get : ∀ j u, j < 4 → xs.toArray[i * 4 + j]? = some u → cur[i * 4 + j]? = some u := fun j u hj hu => by
   rw [List.getElem?_toArray, ← h4, List.getElem?_take_of_lt (by omega)] at hu
   simpa using hu
  exact ⟨vK, vV, vI, get 0 _ (by omega) e0, get 1 _ (by omega) e1, get 2 _ (by omega) e2, get 3 _ (by omega) e3, r⟩
theorem cell_keep {w w' : World} {b j : Nat} {v : Value} (h : w.cell? ⟨b, j, none⟩ = some v) (hb : w'.heap[b]? = w.heap[b]?) : w'.cell? ⟨b, j, none⟩ = some v := (World.cell?_of_block hb).trans h
theorem meas {n j : Nat} (h : j < n) (ew : wrap64 ((j : Int) + 1) = (j : Int) + 1) : n - (intOf (.int .i64 (wrap64 ((j : Int) + 1)))).toNat < n - (intOf (.int .i64 (j : Int))).toNat := by
 rw [ew]
 show n - ((j : Int) + 1).toNat < n - ((j : Int)).toNat
 omega
theorem num_eq {j : Nat} (ew : wrap64 ((j : Int) + 1) = (j : Int) + 1) : Value.int .i64 (wrap64 ((j : Int) + 1)) = .int .i64 ((j + 1 : Nat) : Int) := by rw [ew]; rfl
set_option maxRecDepth 100000 in
set_option maxHeartbeats 8000000 in
theorem copy_any (w : World) (B : Nat) (hB : B ≤ w.heap.size) (root : Int) (g0 c0 : Nat) (N : List Nd) (hT : TI w B g0 N) (h0 : 0 < N.length) (hl : N.length ≤ 1000) (hc : N.length ≤ c0) (hok : ∀ n, n ∈ N → okNode n) :
  Calls Try.prog 74 #[.agg #[.int .i64 root, .slice (some ⟨g0, 0, none⟩) N.length c0]] w fun e w' => ∃ g c, e = .returned (.agg #[.int .i64 root, .slice (some ⟨g, 0, none⟩) N.length c]) ∧ N.length ≤ c ∧ w.heap.size ≤ g ∧ TI w' w.heap.size g N ∧ Below w.heap.size w w' := by
 obtain ⟨i0, hi0, hz0, hz1, hz2⟩ := info_split info_node
 have HT := Aside0.mk hT
 have HL := Aside0.mk (And.intro h0 (And.intro hl hc))
 have HO := Aside0.mk hok
 clear hT h0 hl hc hok
 have C0 := Aside0.mk (show CpAt w (((w.alloc (.cells #[.int .i64 root, .slice (some ⟨g0, 0, none⟩) N.length c0] 30)).alloc (.cells #[.int .i64 0, .slice none 0 0] 30)).alloc (.cells #[.int .i64 root, .slice none 0 0] 30)) root g0 c0 N 0 from by
  have a1 := CellsAt.new w 30 #[.int .i64 root, .slice (some ⟨g0, 0, none⟩) N.length c0]
  have a2 := CellsAt.new (w.alloc (.cells #[.int .i64 root, .slice (some ⟨g0, 0, none⟩) N.length c0] 30)) 30 #[.int .i64 0, .slice none 0 0]
  have a3 := CellsAt.new ((w.alloc (.cells #[.int .i64 root, .slice (some ⟨g0, 0, none⟩) N.length c0] 30)).alloc (.cells #[.int .i64 0, .slice none 0 0] 30)) 30 #[.int .i64 root, .slice none 0 0]
  refine ⟨(((Below.refl _ w).alloc (Nat.le_refl _) _).alloc (by simp) _).alloc (by simp; omega) _, (a1.alloc _).alloc _, by simpa using a2.alloc (.cells #[.int .i64 root, .slice none 0 0] 30), .slice none 0 0, [], by simpa using a3, ⟨rfl, .inl ⟨rfl, rfl⟩⟩, (fun x hx => by cases hx), ⟨_, _, rfl⟩, (fun k n _ hk => by omega)⟩)
 go_enter Try.func74, Try.ntmps74
 go_wp2
 go_loopw [4] (fun v W => ∃ i : Nat, v = .int .i64 i ∧ Aside0 (i ≤ N.length ∧ CpAt w W root g0 c0 N i)) (fun v _ => N.length - (intOf v).toNat)
 case atStart => exact ⟨0, rfl, ⟨Nat.zero_le _, C0.out⟩⟩
 case round =>
  obtain ⟨i, rfl, HI⟩ := hrel
  have t0 : wr.cell? ⟨w.heap.size, 0, none⟩ = some (.int .i64 root) := HI.out.2.t.cell 0
  have t1 : wr.cell? ⟨w.heap.size, 1, none⟩ = some (.slice (some ⟨g0, 0, none⟩) N.length c0) := HI.out.2.t.cell 1
  rcases Nat.lt_or_ge i N.length with hlt | hge
  ·obtain ⟨n, hn⟩ : ∃ n, N[i]? = some n := ⟨_, List.getElem?_eq_getElem hlt⟩
   have bi : (i : Int) < (N.length : Int) := by omega
   have b0 : (0 : Int) ≤ (i : Int) := by omega
   have ew : wrap64 ((i : Int) + 1) = (i : Int) + 1 := by have := HL.out; unfold wrap64; omega
   have hb := HI.out.2.below
   have h3 : CpAt w wr.drew root g0 c0 N i := ⟨⟨hb.os, hb.tape, hb.output, hb.size, hb.block⟩, HI.out.2.t, HI.out.2.r, by
    obtain ⟨vO, xs, ho, hown, hvO, hf, hN⟩ := HI.out.2.o
    refine ⟨vO, xs, ho, Go.Rf.ownL_heap hown (fun _ _ => rfl), hvO, hf, fun k m hm hk => ?_⟩
    obtain ⟨a, b, c, e0, e1, e2, e3, x1, x2, x3⟩ := hN k m hm hk
    exact ⟨a, b, c, e0, e1, e2, e3, x1.keep (fun _ _ => rfl), x2.keep (fun _ _ => rfl), x3.keep (fun _ _ => rfl)⟩⟩
   obtain ⟨vO, xs, ho, hown, hvO, ⟨oA, oc, rfl⟩, hN⟩ := h3.o
   have T1 : TI wr.drew B g0 N := (HT.out.below hb).below (below_drew wr)
   obtain ⟨uK, uV, uI, q0, q1, q2, q3, rK, rV, rI⟩ := T1.node hn
   obtain ⟨KA, Kc, eK⟩ := RowIn.sform rK
   obtain ⟨VA, Vc, eV⟩ := RowIn.sform rV
   obtain ⟨IA, Ic, eI⟩ := RowIn.sform rI
   obtain ⟨n1, n2, n3⟩ := HO.out n (List.mem_of_getElem? hn)
   subst eK eV eI
   have HN := Aside0.mk hn
   have HW := Aside0.mk (And.intro hown (And.intro hvO hN))
   have HD := Aside0.mk h3
   have HX := Aside0.mk ho
   have HRR := Aside0.mk (And.intro rK (And.intro rV rI))
   have HO3 := Aside0.mk (And.intro n1 (And.intro n2 n3))
   have lb : w.heap.size < wr.heap.size := HI.out.2.t.lt
   have lb3 : w.heap.size + 1 + 1 < wr.heap.size := ho.lt
   have lg : g0 < wr.heap.size := by obtain ⟨cu, hcu⟩ := T1.cur; exact hcu.lt
   have lg0 : g0 < w.heap.size := by obtain ⟨cu, hcu⟩ := HT.out.cur; exact hcu.lt
   clear hown hvO hN hb T1 rK rV rI n1 n2 n3 h3 ho hn
   have od : wr.drew.cell? ⟨w.heap.size + 1 + 1, 1, none⟩ = some (.slice oA i oc) := HX.out.cell 1
   have td : wr.drew.cell? ⟨w.heap.size, 1, none⟩ = some (.slice (some ⟨g0, 0, none⟩) N.length c0) := HD.out.t.cell 1
   have hs := And.intro od (And.intro td (And.intro q0 (And.intro q1 (And.intro q2 q3))))
   clear od td q0 q1 q2 q3
   go_wp2_with fail
   go_region_law
    (first | (go_simp; go_at_call 87; refine (Go.Proofs.Ytcolgghllacloaa.R.ask_copy (RowIn.srep HRR.out.1) (RowIn.srep HRR.out.2.1) (RowIn.irep HRR.out.2.2) HO3.out.1 HO3.out.2.1 HO3.out.2.2).mono ?_; rintro e w3 ⟨v3, rfl, ⟨uK, uV, uI, rfl, sK, sV, sI⟩, m3⟩; obtain ⟨A1, c1, rfl⟩ := RowIn.sform sK; obtain ⟨A2, c2, rfl⟩ := RowIn.sform sV; obtain ⟨A3, c3, rfl⟩ := RowIn.sform sI; have bl : ∀ x, x < wr.heap.size → w3.heap[x]? = wr.drew.heap[x]? := (fun x hx => m3.block x hx); have hs3 := And.intro (cell_keep hs.1 (bl _ lb3)) (And.intro (cell_keep hs.2.1 (bl _ lb)) (And.intro (cell_keep hs.2.2.1 (bl _ lg)) (And.intro (cell_keep hs.2.2.2.1 (bl _ lg)) (And.intro (cell_keep hs.2.2.2.2.1 (bl _ lg)) (cell_keep hs.2.2.2.2.2 (bl _ lg)))))); have HM := Aside0.mk m3; have HS3 := Aside0.mk (And.intro sK (And.intro sV sI)); have z3 := m3.size; have bA : ∀ x, x < wr.heap.size → (w3.alloc (.cells #[.bool n.1, .slice A1 n.2.1.length c1, .slice A2 n.2.2.1.length c2, .slice A3 n.2.2.2.1.length c3] 72)).heap[x]? = w3.heap[x]? := (fun x hx => Below.heap_alloc _ _ _ (Nat.lt_of_lt_of_le hx z3)); have hsA := And.intro (cell_keep hs3.1 (bA _ lb3)) (And.intro (cell_keep hs3.2.1 (bA _ lb)) (And.intro (cell_keep hs3.2.2.1 (bA _ lg)) (And.intro (cell_keep hs3.2.2.2.1 (bA _ lg)) (And.intro (cell_keep hs3.2.2.2.2.1 (bA _ lg)) (cell_keep hs3.2.2.2.2.2 (bA _ lg)))))); have OA : ownL (w3.alloc (.cells #[.bool n.1, .slice A1 n.2.1.length c1, .slice A2 n.2.2.1.length c2, .slice A3 n.2.2.2.1.length c3] 72)) 72 i0.size (.slice oA i oc) i xs := (by rw [hz1]; exact Go.Rf.ownL_heap HW.out.1 (fun x hx => (bA x (HW.out.2.1 x hx).2).trans (bl x (HW.out.2.1 x hx).2))); have SA : Src Try.prog (w3.alloc (.cells #[.bool n.1, .slice A1 n.2.1.length c1, .slice A2 n.2.2.1.length c2, .slice A3 n.2.2.2.1.length c3] 72)) i0.size (.slice (some ⟨w3.heap.size, 0, none⟩) 1 1) 1 [.bool n.1, .slice A1 n.2.1.length c1, .slice A2 n.2.2.1.length c2, .slice A3 n.2.2.2.1.length c3] := (by rw [hz1]; exact src_four w3 _ _ _ _ _ (by intro u hu; simp at hu; rcases hu with rfl | rfl | rfl | rfl <;> rfl)); clear hs m3 sK sV sI bl bA; have hs := hs3; clear hs3) | (refine step_app rfl (.tmp 16) (.tmp 23) 28 rfl 72 i0 _ Try.underlying28 hi0 hz0 (by rw [hz1]; rfl) (.slice oA i oc) i xs rfl OA (.slice (some ⟨w3.heap.size, 0, none⟩) 1 1) 1 _ rfl SA (by have := HL.out.2.1; unfold maxLen; omega) (by have := HL.out.2.1; rw [hz2]; omega) ?_; intro v5 w5 own5 gr5 bk5 fm5; obtain ⟨A5, c5, rfl⟩ := fm5; rw [hz1] at own5; have P5 := Aside0.mk (CpAt.step HN.out HD.out HX.out HW.out.1 HW.out.2.1 HW.out.2.2 HM.out (HS3.out.1.weaken HD.out.below.size) (HS3.out.2.1.weaken HD.out.below.size) (HS3.out.2.2.weaken HD.out.below.size) own5 gr5 bk5 ⟨A5, c5, rfl⟩); have b5 : ∀ x, x < w.heap.size + 3 → x < wr.heap.size → w5.heap[x]? = (w3.alloc (.cells #[.bool n.1, .slice A1 n.2.1.length c1, .slice A2 n.2.2.1.length c2, .slice A3 n.2.2.2.1.length c3] 72)).heap[x]? := (fun x h1 h2 => gr5.block x (by have := HM.out.size; simp at this ⊢; omega) (fun e => by have := (HW.out.2.1 x e.symm).1; omega)); have hs5 := And.intro (cell_keep hsA.1 (b5 _ (by omega) lb3)) (And.intro (cell_keep hsA.2.1 (b5 _ (by omega) lb)) (And.intro (cell_keep hsA.2.2.1 (b5 _ (by omega) lg)) (And.intro (cell_keep hsA.2.2.2.1 (b5 _ (by omega) lg)) (And.intro (cell_keep hsA.2.2.2.2.1 (b5 _ (by omega) lg)) (cell_keep hsA.2.2.2.2.2 (b5 _ (by omega) lg)))))); have fz5 : w5.frozen? ⟨w.heap.size + 1 + 1, 1, none⟩ = false := CellsAt.frozen (t := 30) (cs := #[.int .i64 root, .slice oA i oc]) (((b5 _ (by omega) lb3).trans (Below.heap_alloc _ _ _ (Nat.lt_of_lt_of_le lb3 HM.out.size))).trans (HX.out.below HM.out HX.out.lt)) 1; clear own5 gr5 bk5 OA SA hs hsA b5; have hs := hs5; clear hs5))
   all_goals go_wp2
   all_goals exact ⟨⟨i + 1, by first | rfl | exact num_eq ew, ⟨hlt, P5.out⟩⟩, by first | exact meas hlt ew | (show N.length - ((i : Int) + 1).toNat < N.length - ((i : Int)).toNat; omega)⟩
  ·obtain rfl : i = N.length := by have := HI.out.1; omega
   obtain ⟨g, c, ho, hc, hg, hT⟩ := HI.out.2.done HL.out.1
   have o0 : wr.cell? ⟨w.heap.size + 1 + 1, 0, none⟩ = some (.int .i64 root) := ho.cell 0
   have o1 : wr.cell? ⟨w.heap.size + 1 + 1, 1, none⟩ = some (.slice (some ⟨g, 0, none⟩) N.length c) := ho.cell 1
   have r0 : wr.cell? ⟨w.heap.size + 1, 0, none⟩ = some (.int .i64 0) := HI.out.2.r.cell 0
   have r1 : wr.cell? ⟨w.heap.size + 1, 1, none⟩ = some (.slice none 0 0) := HI.out.2.r.cell 1
   have k0 := HI.out.2.r.frozen 0
   have k1 := HI.out.2.r.frozen 1
   have HTT := Aside0.mk (And.intro hT (And.intro hc hg))
   clear hT hc hg ho
   go_wp2
   have hb := HI.out.2.below
   refine bodyPost_ret (results_cell_row (P := Try.prog) (show Try.f74.results = #[.cell 2 30] from rfl) _ _ _ _ _ _ _ rfl (HI.out.2.r.set2 (.int .i64 root) (.slice (some ⟨g, 0, none⟩) N.length c)) Try.underlying30 rfl (by kernel_rfl)) rfl ?_
   exact ⟨g, c, rfl, HTT.out.2.1, by have := HTT.out.2.2; omega, HTT.out.1.set2 HI.out.2.r _ _, (hb.setCell (by show w.heap.size ≤ w.heap.size + 1; omega) _).setCell (by show w.heap.size ≤ w.heap.size + 1; omega) _⟩
end Go.Proofs.Ytcolgghllacloaa.Tm
end

section
namespace Go.Proofs.Ytcolgghllacloaa.Tm
open Go.Rf (RowIn strs ints rep nodeT ownL blk Src IsLow)
open Go.Proofs.Ytcolgghllacloaa.R (okNode okLen NodeR nodeZero)
open Go.RowKit Go.Proofs.Ytcolgghllacloaa.Q Go.Proofs.YtcolgghllacloaaW.PrintWords Go.Proofs.YtcolgghllacloaaW.PrintLast Go.Proofs.YtcolgghllacloaaW.PrintMore
def Bx (W : World) (L : List (Nat × TypeId × Array Value)) : Prop := ∀ x ∈ L, CellsAt W x.1 x.2.1 x.2.2
def BxOk (g : Nat) (L : List (Nat × TypeId × Array Value)) : Prop := ∀ x ∈ L, x.1 ≠ g ∧ x.2.1 ≠ 9
theorem Bx.fr {B g : Nat} {W W' : World} {L : List (Nat × TypeId × Array Value)} (h : Bx W L) (F : Fr B g W W') (hL : BxOk g L) : Bx W' L := fun x hx => F.cells (h x hx) (hL x hx).1 (hL x hx).2
theorem Bx.alloc {W : World} {L : List (Nat × TypeId × Array Value)} (h : Bx W L) (cs : Array Value) (t : TypeId) : Bx (W.alloc (.cells cs t)) (L ++ [(W.heap.size, t, cs)]) := by
 intro x hx
 rcases List.mem_append.1 hx with hx | hx
 ·exact (h x hx).alloc _
 ·obtain rfl := List.mem_singleton.1 hx
  exact CellsAt.new W t cs
abbrev tv (root : Int) (g n c : Nat) : Value := .agg #[.int .i64 root, .slice (some ⟨g, 0, none⟩) n c]
abbrev upv (u : Bool × ByteArray × Int × Bool) : Value := .agg #[.bool u.1, .string u.2.1, .int .i64 u.2.2.1, .bool u.2.2.2]
theorem zero_sk {n : Nd} (h : nodeZero n = true) : sk n = (false, 0, 0, []) := by
 unfold Go.Proofs.Ytcolgghllacloaa.R.nodeZero at h
 simp only [Bool.and_eq_true, Bool.not_eq_true', beq_iff_eq] at h
 obtain ⟨⟨⟨h1, h2⟩, h3⟩, h4⟩ := h
 unfold sk
 rw [h1, show n.2.1.length = 0 by omega, show n.2.2.1.length = 0 by omega, List.length_eq_zero_iff.1 (show n.2.2.2.1.length = 0 by omega)]
def PutL (S : List Sk) (at' K : Nat) (S' : List Sk) (u : Bool × ByteArray × Int × Bool) : Prop :=
 (u.1 = false ∧ S' = S) ∨ (u.1 = false ∧ u.2.2.2 = false ∧ K + 1 ≤ 4 ∧ S' = S.set at' (true, K + 1, K + 1, [])) ∨
 (∃ f : Nat, u.1 = true ∧ u.2.2.2 = false ∧ u.2.2.1 = (f : Int) ∧ f < S.length ∧ S[f]? = some (false, 0, 0, []) ∧ K = 4 ∧ S' = (S.set at' (true, 3, 3, [])).set f (true, 2, 2, []))
theorem RowIn.set4 {w : World} {B g id : Nat} {v : Value} {l : List Value} {cur : Array Value} (h : RowIn w B id v l) (hc : CellsAt w g 72 cur) (hid : id ≠ 72) {o : Nat} {a b c d : Value} : RowIn (set4 w g o a b c d) B id v l :=
 h.keep fun x hx => set4_heap _ _ _ _ (RowIn.ne h hc hid x hx)
theorem RowIn.at {w : World} {B id b n c : Nat} {l : List Value} (h : RowIn w B id (.slice (some ⟨b, 0, none⟩) n c) l) {j : Nat} {u : Value} (hj : l[j]? = some u) : w.cell? ⟨b, j, none⟩ = some u := by
 obtain ⟨x, y, e, hcell⟩ := h.cell hj
 injection e with e
 injection e with e
 injection e with e
 rw [e]
 exact hcell
theorem RowIn.set2 {w : World} {B r : Nat} {v x y a b : Value} {l : List Value} (h : RowIn w B 9 v l) (hr : CellsAt w r 30 #[x, y]) : RowIn (set2 w r a b) B 9 v l :=
 h.keep fun k hk => (Below.heap_setCell _ _ _ _ (RowIn.ne h hr (by decide) k hk)).trans (Below.heap_setCell _ _ _ _ (RowIn.ne h hr (by decide) k hk))
end Go.Proofs.Ytcolgghllacloaa.Tm
end

section
namespace Go.Proofs.Ytcolgghllacloaa.Tm
abbrev zS : Sk := (false, 0, 0, [])
structure WF (S : List Sk) (lv : Nat → Nat) (root : Nat) (x : Nat → Nat) : Prop where
 len : S.length = 19
 rt : ∃ s, S[root]? = some s ∧ s ≠ zS
 leaf : ∀ (i : Nat) s, S[i]? = some s → s.1 = true → s.2.2.1 = s.2.1 ∧ s.2.2.2 = [] ∧ lv i = 0
 inner : ∀ (i : Nat) s, S[i]? = some s → s.1 = false → s ≠ zS → s.2.2.1 = 0 ∧ s.2.2.2.length = s.2.1 + 1 ∧ 0 < lv i
 four : ∀ (i : Nat) s, S[i]? = some s → s.2.1 ≤ 4
 kid : ∀ (i : Nat) s, S[i]? = some s → ∀ k ∈ s.2.2.2, ∃ j : Nat, k = (j : Int) ∧ j ≠ root ∧ (∃ t, S[j]? = some t ∧ t ≠ zS) ∧ lv j + 1 = lv i
 min : ∀ (i : Nat) s, S[i]? = some s → s ≠ zS → (i ≠ root → 2 ≤ s.2.1 + x i) ∧ (s.1 = false → 1 ≤ s.2.1 + x i)
 inj : ∀ (i j a b : Nat) s t k, S[i]? = some s → S[j]? = some t → s.2.2.2[a]? = some k → t.2.2.2[b]? = some k → i = j ∧ a = b
abbrev x0 : Nat → Nat := fun _ => 0
abbrev x1 (at' : Nat) : Nat → Nat := fun i => if i = at' then 1 else 0
section
variable {S : List Sk} {lv : Nat → Nat} {root : Nat} {x : Nat → Nat}
theorem WF.mono {y : Nat → Nat} (h : WF S lv root x) (hy : ∀ i, x i ≤ y i) : WF S lv root y :=
 ⟨h.len, h.rt, h.leaf, h.inner, h.four, h.kid, fun i s hs hz => ⟨fun hr => by have := (h.min i s hs hz).1 hr; have := hy i; omega, fun hl => by have := (h.min i s hs hz).2 hl; have := hy i; omega⟩, h.inj⟩
theorem get_set {l : List Sk} {i j : Nat} {a s : Sk} (h : (l.set i a)[j]? = some s) : (i = j ∧ s = a ∧ i < l.length) ∨ (i ≠ j ∧ l[j]? = some s) := by
 rw [List.getElem?_set] at h
 split at h
 ·rename_i e
  split at h
  ·exact .inl ⟨e, (Option.some.inj h).symm, by assumption⟩
  ·cases h
 ·rename_i e
  exact .inr ⟨e, h⟩
theorem set_ne {l : List Sk} {i j : Nat} {a : Sk} (h : i ≠ j) : (l.set i a)[j]? = l[j]? := List.getElem?_set_ne h
theorem set_eq {l : List Sk} {i : Nat} {a : Sk} (h : i < l.length) : (l.set i a)[i]? = some a := List.getElem?_set_self h
theorem WF.set (h : WF S lv root x) {at' : Nat} {o n : Sk} (ho : S[at']? = some o) (hoz : o ≠ zS) (hnz : n ≠ zS) (hl : n.1 = o.1) (hleaf : n.1 = true → n.2.2.1 = n.2.1 ∧ n.2.2.2 = []) (hin : n.1 = false → n.2.2.1 = 0 ∧ n.2.2.2.length = n.2.1 + 1) (h4 : n.2.1 ≤ 4)
  {y : Nat → Nat} (hy : ∀ i, i ≠ at' → x i ≤ y i) (hmin : (at' ≠ root → 2 ≤ n.2.1 + y at') ∧ (n.1 = false → 1 ≤ n.2.1 + y at'))
  (hkid : ∀ k ∈ n.2.2.2, ∃ j : Nat, k = (j : Int) ∧ j ≠ root ∧ (∃ t, S[j]? = some t ∧ t ≠ zS) ∧ lv j + 1 = lv at') (hinj : ∀ (j a b : Nat) t k, j ≠ at' → S[j]? = some t → n.2.2.2[a]? = some k → t.2.2.2[b]? = some k → False)
  (hself : ∀ (a b : Nat) k, n.2.2.2[a]? = some k → n.2.2.2[b]? = some k → a = b) : WF (S.set at' n) lv root y := by
 have hlt : at' < S.length := (List.getElem?_eq_some_iff.1 ho).1
 have nzk : ∀ {j : Nat}, (∃ t, S[j]? = some t ∧ t ≠ zS) → ∃ t, (S.set at' n)[j]? = some t ∧ t ≠ zS := by
  rintro j ⟨t, ht, hz⟩
  by_cases e : at' = j
  ·subst e; exact ⟨n, set_eq hlt, hnz⟩
  ·exact ⟨t, by rw [set_ne e]; exact ht, hz⟩
 refine ⟨by rw [List.length_set]; exact h.len, nzk h.rt, fun i s hs hls => ?_, fun i s hs hls hz => ?_, fun i s hs => ?_, fun i s hs k hk => ?_, fun i s hs hz => ?_, fun i j a b s t k hs ht ha hb => ?_⟩
 ·rcases get_set hs with ⟨rfl, rfl, _⟩ | ⟨_, hs⟩
  ·exact ⟨(hleaf hls).1, (hleaf hls).2, (h.leaf _ o ho (hl ▸ hls)).2.2⟩
  ·exact h.leaf i s hs hls
 ·rcases get_set hs with ⟨rfl, rfl, _⟩ | ⟨_, hs⟩
  ·exact ⟨(hin hls).1, (hin hls).2, (h.inner _ o ho (hl ▸ hls) hoz).2.2⟩
  ·exact h.inner i s hs hls hz
 ·rcases get_set hs with ⟨rfl, rfl, _⟩ | ⟨_, hs⟩
  ·exact h4
  ·exact h.four i s hs
 ·rcases get_set hs with ⟨rfl, rfl, _⟩ | ⟨_, hs⟩
  ·obtain ⟨j, e, h1, h2, h3⟩ := hkid k hk
   exact ⟨j, e, h1, nzk h2, h3⟩
  ·obtain ⟨j, e, h1, h2, h3⟩ := h.kid i s hs k hk
   exact ⟨j, e, h1, nzk h2, h3⟩
 ·rcases get_set hs with ⟨rfl, rfl, _⟩ | ⟨hne, hs⟩
  ·exact hmin
  ·have := hy i (fun e => hne e.symm)
   exact ⟨fun hr => by have := (h.min i s hs hz).1 hr; omega, fun hl => by have := (h.min i s hs hz).2 hl; omega⟩
 ·rcases get_set hs with ⟨rfl, rfl, _⟩ | ⟨hne, hs2⟩ <;> rcases get_set ht with ⟨e, e2, _⟩ | ⟨hne', ht2⟩
  ·subst e2
   exact ⟨e, hself a b k ha hb⟩
  ·exact (hinj j a b t k (fun e => hne' e.symm) ht2 ha hb).elim
  ·subst e e2
   exact (hinj i b a s k (fun e => hne e.symm) hs2 hb ha).elim
  ·exact h.inj i j a b s t k hs2 ht2 ha hb
theorem WF.add (h : WF S lv root x) {f : Nat} {n : Sk} {l : Nat} (hf : S[f]? = some zS) (hnz : n ≠ zS) (hleaf : n.1 = true → n.2.2.1 = n.2.1 ∧ n.2.2.2 = [] ∧ l = 0) (hin : n.1 = false → n.2.2.1 = 0 ∧ n.2.2.2.length = n.2.1 + 1 ∧ 0 < l) (h4 : n.2.1 ≤ 4) (hmin : 2 ≤ n.2.1)
  (hkid : ∀ k ∈ n.2.2.2, ∃ j : Nat, k = (j : Int) ∧ j ≠ root ∧ (∃ t, S[j]? = some t ∧ t ≠ zS) ∧ lv j + 1 = l) (hinj : ∀ (j a b : Nat) t k, S[j]? = some t → n.2.2.2[a]? = some k → t.2.2.2[b]? = some k → False)
  (hself : ∀ (a b : Nat) k, n.2.2.2[a]? = some k → n.2.2.2[b]? = some k → a = b) : WF (S.set f n) (fun i => if i = f then l else lv i) root x ∧ (∀ (i : Nat) s, (S.set f n)[i]? = some s → (f : Int) ∉ s.2.2.2) ∧ f ≠ root := by
 have hlt : f < S.length := (List.getElem?_eq_some_iff.1 hf).1
 have nz : ∀ {j : Nat}, (∃ t, S[j]? = some t ∧ t ≠ zS) → j ≠ f := by
  rintro j ⟨t, ht, hz⟩ rfl
  rw [hf] at ht
  exact hz (Option.some.inj ht).symm
 have nzk : ∀ {j : Nat}, (∃ t, S[j]? = some t ∧ t ≠ zS) → ∃ t, (S.set f n)[j]? = some t ∧ t ≠ zS := fun {j} hj => by
  obtain ⟨t, ht, hz⟩ := hj
  exact ⟨t, by rw [set_ne (Ne.symm (nz ⟨t, ht, hz⟩))]; exact ht, hz⟩
 have hroot : f ≠ root := Ne.symm (nz h.rt)
 have noref : ∀ (i : Nat) s, S[i]? = some s → (f : Int) ∉ s.2.2.2 := fun i s hs hk => by
  obtain ⟨j, e, _, h2, _⟩ := h.kid i s hs _ hk
  exact nz h2 (by omega)
 refine ⟨⟨by rw [List.length_set]; exact h.len, nzk h.rt, fun i s hs hls => ?_, fun i s hs hls hz => ?_, fun i s hs => ?_, fun i s hs k hk => ?_, fun i s hs hz => ?_, fun i j a b s t k hs ht ha hb => ?_⟩, fun i s hs hk => ?_, hroot⟩
 ·rcases get_set hs with ⟨rfl, rfl, _⟩ | ⟨hne, hs⟩
  ·obtain ⟨q1, q2, q3⟩ := hleaf hls
   exact ⟨q1, q2, by simpa using q3⟩
  ·obtain ⟨q1, q2, q3⟩ := h.leaf i s hs hls
   exact ⟨q1, q2, by simp only [if_neg (Ne.symm hne)]; exact q3⟩
 ·rcases get_set hs with ⟨rfl, rfl, _⟩ | ⟨hne, hs⟩
  ·obtain ⟨q1, q2, q3⟩ := hin hls
   exact ⟨q1, q2, by simpa using q3⟩
  ·obtain ⟨q1, q2, q3⟩ := h.inner i s hs hls hz
   exact ⟨q1, q2, by simp only [if_neg (Ne.symm hne)]; exact q3⟩
 ·rcases get_set hs with ⟨rfl, rfl, _⟩ | ⟨hne, hs⟩
  ·exact h4
  ·exact h.four i s hs
 ·rcases get_set hs with ⟨rfl, rfl, _⟩ | ⟨hne, hs⟩
  ·obtain ⟨j, e, h1, h2, h3⟩ := hkid k hk
   exact ⟨j, e, h1, nzk h2, by simp only [if_neg (nz h2)]; simpa using h3⟩
  ·obtain ⟨j, e, h1, h2, h3⟩ := h.kid i s hs k hk
   exact ⟨j, e, h1, nzk h2, by simp only [if_neg (nz h2), if_neg (Ne.symm hne)]; exact h3⟩
 ·rcases get_set hs with ⟨rfl, rfl, _⟩ | ⟨hne, hs⟩
  ·exact ⟨fun _ => by omega, fun _ => by omega⟩
  ·exact h.min i s hs hz
 ·rcases get_set hs with ⟨rfl, rfl, _⟩ | ⟨hne, hs2⟩ <;> rcases get_set ht with ⟨e, e2, _⟩ | ⟨hne', ht2⟩
  ·subst e2
   exact ⟨e, hself a b k ha hb⟩
  ·exact (hinj j a b t k ht2 ha hb).elim
  ·subst e e2
   exact (hinj i b a s k hs2 hb ha).elim
  ·exact h.inj i j a b s t k hs2 ht2 ha hb
 ·rcases get_set hs with ⟨rfl, rfl, _⟩ | ⟨hne, hs⟩
  ·obtain ⟨j, e, _, h2, _⟩ := hkid _ hk
   exact nz h2 (by omega)
  ·exact noref i s hs hk
end
def PutR (S : List Sk) (lv : Nat → Nat) (root at' : Nat) (S' : List Sk) (split : Bool) (node : Int) : Prop :=
 ∃ lv', WF S' lv' root x0 ∧ (∀ i, (∃ s, S[i]? = some s ∧ s ≠ zS) → lv' i = lv i ∧ ∃ s, S'[i]? = some s ∧ s ≠ zS) ∧ (∀ i, lv at' < lv i → (∃ s, S[i]? = some s ∧ s ≠ zS) → S'[i]? = S[i]?) ∧ (∃ s, S'[at']? = some s ∧ s ≠ zS ∧ (split = true → 2 ≤ s.2.1)) ∧
  (split = true → ∃ f : Nat, node = (f : Int) ∧ f ≠ root ∧ (∃ t, S'[f]? = some t ∧ t ≠ zS ∧ 2 ≤ t.2.1) ∧ lv' f = lv at' ∧ ∀ (i : Nat) s, S'[i]? = some s → (f : Int) ∉ s.2.2.2)
section
variable {S S1 : List Sk} {lv : Nat → Nat} {root j : Nat} {node : Int}
theorem WF.lt (h : WF S lv root x0) {i : Nat} {s : Sk} (hs : S[i]? = some s) : i < 19 := by have := (List.getElem?_eq_some_iff.1 hs).1; rw [h.len] at this; exact this
theorem nz_set {i f : Nat} {n : Sk} (h : ∃ s, S[i]? = some s ∧ s ≠ zS) (hn : n ≠ zS) : ∃ s, (S.set f n)[i]? = some s ∧ s ≠ zS := by
 obtain ⟨s, hs, hz⟩ := h
 by_cases e : f = i
 ·subst e; exact ⟨n, set_eq (List.getElem?_eq_some_iff.1 hs).1, hn⟩
 ·exact ⟨s, by rw [set_ne e]; exact hs, hz⟩
theorem put_leaf_same (h : WF S lv root x0) {at' : Nat} {o : Sk} (ho : S[at']? = some o) (hoz : o ≠ zS) : PutR S lv root at' S false 0 :=
 ⟨lv, h, fun _ hz => ⟨rfl, hz⟩, fun _ _ _ => rfl, ⟨o, ho, hoz, fun e => by cases e⟩, fun e => by cases e⟩
theorem put_leaf_in (h : WF S lv root x0) {at' K : Nat} {I : List Int} {V : Nat} (ho : S[at']? = some (true, K, V, I)) (hK : K + 1 ≤ 4) (node : Int) : PutR S lv root at' (S.set at' (true, K + 1, K + 1, [])) false node := by
 have hlt := (List.getElem?_eq_some_iff.1 ho).1
 refine ⟨lv, h.set (n := (true, K + 1, K + 1, [])) ho (by simp) (by simp) rfl (fun _ => ⟨rfl, rfl⟩) (fun e => by cases e) hK (fun _ _ => Nat.le_refl _) ⟨fun hr => ?_, fun e => by cases e⟩ (fun k hk => by cases hk) (fun _ _ _ _ _ _ _ hk => by simp at hk) (fun _ _ _ hk => by simp at hk), fun _ hz => ⟨rfl, nz_set hz (by simp)⟩, fun i hi _ => set_ne (fun e => by subst e; omega), ⟨_, set_eq hlt, by simp, fun e => by cases e⟩, fun e => by cases e⟩
 have := (h.min at' _ ho (by simp)).1 hr
 simp only at this ⊢
 omega
theorem put_leaf_split (h : WF S lv root x0) {at' K : Nat} {I : List Int} {V f : Nat} (ho : S[at']? = some (true, K, V, I)) (hf : S[f]? = some zS) : PutR S lv root at' ((S.set at' (true, 3, 3, [])).set f (true, 2, 2, [])) true (f : Int) := by
 have hlt := (List.getElem?_eq_some_iff.1 ho).1
 have hne : at' ≠ f := by rintro rfl; rw [ho] at hf; cases hf
 have h1 : WF (S.set at' (true, 3, 3, [])) lv root x0 := h.set (n := (true, 3, 3, [])) ho (by simp) (by simp) rfl (fun _ => ⟨rfl, rfl⟩) (fun e => by cases e) (by decide) (fun _ _ => Nat.le_refl _) ⟨fun hr => by simp, fun e => by cases e⟩ (fun k hk => by cases hk) (fun _ _ _ _ _ _ _ hk => by simp at hk) (fun _ _ _ hk => by simp at hk)
 have hf1 : (S.set at' (true, 3, 3, []))[f]? = some zS := by rw [set_ne hne]; exact hf
 have hflt := (List.getElem?_eq_some_iff.1 hf1).1
 have hl0 : lv at' = 0 := (h.leaf at' _ ho rfl).2.2
 obtain ⟨h2, h3, h4⟩ := h1.add (l := 0) hf1 (n := (true, 2, 2, [])) (by simp) (fun _ => ⟨rfl, rfl, rfl⟩) (fun e => by cases e) (by decide) (by decide) (fun k hk => by cases hk) (fun _ _ _ _ _ _ hk => by simp at hk) (fun _ _ _ hk => by simp at hk)
 refine ⟨_, h2, fun i hi => ?_, fun i hi hz => ?_, ⟨(true, 3, 3, []), by rw [set_ne hne.symm]; exact set_eq hlt, by simp, fun _ => by simp⟩, fun _ => ⟨f, rfl, h4, ⟨_, set_eq hflt, by simp, Nat.le_refl _⟩, by simp [hl0], h3⟩⟩
 ·refine ⟨?_, nz_set (nz_set hi (by simp)) (by simp)⟩
  obtain ⟨s, hs, hz⟩ := hi
  rw [if_neg]
  rintro rfl
  rw [hf] at hs
  exact hz (Option.some.inj hs).symm
 ·obtain ⟨s, hs, hz'⟩ := hz
  have e1 : f ≠ i := by rintro rfl; rw [hf] at hs; exact hz' (Option.some.inj hs).symm
  rw [set_ne e1, set_ne (fun e => by subst e; omega)]
theorem nodup_self {l : List Int} (h : l.Nodup) : ∀ (a b : Nat) k, l[a]? = some k → l[b]? = some k → a = b := by
 intro a b k ha hb
 obtain ⟨h1, e1⟩ := List.getElem?_eq_some_iff.1 ha
 obtain ⟨h2, e2⟩ := List.getElem?_eq_some_iff.1 hb
 rcases Nat.lt_trichotomy a b with hab | hab | hab
 ·exact absurd (e1.trans e2.symm) (List.pairwise_iff_getElem.1 h a b h1 h2 hab)
 ·exact hab
 ·exact absurd (e2.trans e1.symm) (List.pairwise_iff_getElem.1 h b a h2 h1 hab)
theorem WF.nodup {x : Nat → Nat} (h : WF S lv root x) {i : Nat} {s : Sk} (hs : S[i]? = some s) : s.2.2.2.Nodup := by
 refine List.pairwise_iff_getElem.2 fun a b ha hb hab e => ?_
 have := (h.inj i i a b s s _ hs hs (List.getElem?_eq_getElem ha) (by rw [e]; exact List.getElem?_eq_getElem hb)).2
 omega
theorem PutR.at (hp : PutR S lv root j S1 true node) (h : WF S lv root x0) {at' : Nat} {o : Sk} (ho : S[at']? = some o) (hoz : o ≠ zS) (hlv : lv j + 1 = lv at') : S1[at']? = some o := by
 obtain ⟨lv1, _, _, h3, _⟩ := hp
 exact (h3 at' (by omega) ⟨o, ho, hoz⟩).trans ho
theorem put_inner_in (h : WF S lv root x0) {at' K V j f : Nat} {kids kids' : List Int} {S1 : List Sk} (ho : S[at']? = some (false, K, V, kids)) (hK0 : 0 < K) (hlv : lv j + 1 = lv at') (hp : PutR S lv root j S1 true (f : Int))
  (hlen : kids'.length = K + 1 + 1) (hnd : kids'.Nodup) (hmem : ∀ k ∈ kids', k ∈ kids ∨ k = (f : Int)) (hK : K + 1 ≤ 4) (node : Int) : PutR S lv root at' (S1.set at' (false, K + 1, 0, kids')) false node := by
 have hoz : ((false, K, V, kids) : Sk) ≠ zS := by intro e; injection e with _ e; injection e with e; omega
 have ho1 := hp.at h ho hoz hlv
 obtain ⟨lv1, w1, l1, k1, _, hs⟩ := hp
 obtain ⟨f', e, hfr, ⟨t, ht, htz, ht2⟩, hlf, hun⟩ := hs rfl
 obtain rfl : f' = f := by omega
 have hlat : lv1 at' = lv at' := (l1 at' ⟨_, ho, hoz⟩).1
 refine ⟨lv1, w1.set (n := (false, K + 1, 0, kids')) ho1 hoz (by intro e; injection e with _ e; injection e with e; omega) rfl (fun e => by cases e) (fun _ => ⟨rfl, hlen⟩) hK (fun _ _ => Nat.le_refl _) ⟨fun hr => ?_, fun _ => by simp⟩ (fun k hk => ?_) (fun i a b s k hi hs ha hb => ?_) (nodup_self hnd), fun i hi => ⟨(l1 i hi).1, nz_set (l1 i hi).2 (by intro e; injection e with _ e; injection e with e; omega)⟩, fun i hi hz => ?_, ⟨_, set_eq (List.getElem?_eq_some_iff.1 ho1).1, by intro e; injection e with _ e; injection e with e; omega, fun e => by cases e⟩, fun e => by cases e⟩
 ·have := (w1.min at' _ ho1 hoz).1 hr
  simp only at this ⊢
  omega
 ·rcases hmem k hk with hk | rfl
  ·exact w1.kid at' _ ho1 k hk
  ·exact ⟨f', rfl, hfr, ⟨t, ht, htz⟩, by omega⟩
 ·rcases hmem k (List.mem_of_getElem? ha) with hk | rfl
  ·obtain ⟨c, hc⟩ := List.getElem?_of_mem hk
   exact hi ((w1.inj at' i c b _ s k ho1 hs hc hb).1.symm)
  ·exact hun i s hs (List.mem_of_getElem? hb)
 ·rw [set_ne (fun e => by subst e; omega)]
  exact k1 i (by omega) hz
theorem put_inner_split (h : WF S lv root x0) {at' V j f f2 : Nat} {kids kids' : List Int} {S1 : List Sk} (ho : S[at']? = some (false, 4, V, kids)) (hlv : lv j + 1 = lv at') (hp : PutR S lv root j S1 true (f : Int))
  (hlen : kids'.length = 6) (hnd : kids'.Nodup) (hmem : ∀ k ∈ kids', k ∈ kids ∨ k = (f : Int)) (hf2 : S1[f2]? = some zS) : PutR S lv root at' ((S1.set at' (false, 2, 0, kids'.take 3)).set f2 (false, 2, 0, kids'.drop 3)) true (f2 : Int) := by
 have hoz : ((false, 4, V, kids) : Sk) ≠ zS := by intro e; injection e with _ e; injection e with e; omega
 have nz2 : ∀ l : List Int, ((false, 2, 0, l) : Sk) ≠ zS := fun l e => by injection e with _ e; injection e with e; omega
 have ho1 := hp.at h ho hoz hlv
 obtain ⟨lv1, w1, l1, k1, _, hs⟩ := hp
 obtain ⟨f', e, hfr, ⟨t, ht, htz, ht2⟩, hlf, hun⟩ := hs rfl
 obtain rfl : f' = f := by omega
 have hlat : lv1 at' = lv at' := (l1 at' ⟨_, ho, hoz⟩).1
 have hkid : ∀ k ∈ kids', ∃ j : Nat, k = (j : Int) ∧ j ≠ root ∧ (∃ t, S1[j]? = some t ∧ t ≠ zS) ∧ lv1 j + 1 = lv1 at' := fun k hk => by
  rcases hmem k hk with hk | rfl
  ·exact w1.kid at' _ ho1 k hk
  ·exact ⟨f', rfl, hfr, ⟨t, ht, htz⟩, by omega⟩
 have hoth : ∀ (i b : Nat) s k, i ≠ at' → S1[i]? = some s → k ∈ kids' → s.2.2.2[b]? = some k → False := fun i b s k hi hs hk hb => by
  rcases hmem k hk with hk | rfl
  ·obtain ⟨c, hc⟩ := List.getElem?_of_mem hk
   exact hi ((w1.inj at' i c b _ s k ho1 hs hc hb).1.symm)
  ·exact hun i s hs (List.mem_of_getElem? hb)
 have hne : at' ≠ f2 := by rintro rfl; rw [ho1] at hf2; exact hoz (Option.some.inj hf2)
 have hlt1 := (List.getElem?_eq_some_iff.1 ho1).1
 have w2 : WF (S1.set at' (false, 2, 0, kids'.take 3)) lv1 root x0 := w1.set (n := (false, 2, 0, kids'.take 3)) ho1 hoz (nz2 _) rfl (fun e => by cases e) (fun _ => ⟨rfl, by simp [hlen]⟩) (by simp) (fun _ _ => Nat.le_refl _) ⟨fun _ => by simp, fun _ => by simp⟩
  (fun k hk => hkid k (List.mem_of_mem_take hk)) (fun i a b s k hi hs ha hb => hoth i b s k hi hs (List.mem_of_mem_take (List.mem_of_getElem? ha)) hb) (nodup_self (hnd.sublist (List.take_sublist _ _)))
 have hf21 : (S1.set at' (false, 2, 0, kids'.take 3))[f2]? = some zS := by rw [set_ne hne]; exact hf2
 have hdis : ∀ k, k ∈ kids'.take 3 → k ∈ kids'.drop 3 → False := fun k h1 h2 => by
  have := hnd
  rw [← List.take_append_drop 3 kids', List.nodup_append] at this
  exact this.2.2 k h1 k h2 rfl
 obtain ⟨w3, h3, h4⟩ := w2.add (l := lv1 at') hf21 (n := (false, 2, 0, kids'.drop 3)) (nz2 _) (fun e => by cases e) (fun _ => ⟨rfl, by simp [hlen], by have := (h.inner at' _ ho rfl hoz).2.2; omega⟩) (by simp) (by simp)
  (fun k hk => by
   obtain ⟨j', e, q1, ⟨t', ht', hz'⟩, q3⟩ := hkid k (List.mem_of_mem_drop hk)
   refine ⟨j', e, q1, ?_, q3⟩
   by_cases e2 : at' = j'
   ·subst e2; exact ⟨_, set_eq hlt1, nz2 _⟩
   ·exact ⟨t', by rw [set_ne e2]; exact ht', hz'⟩)
  (fun i a b s k hs ha hb => by
   rcases get_set hs with ⟨rfl, rfl, _⟩ | ⟨hi, hs2⟩
   ·exact hdis k (List.mem_of_getElem? hb) (List.mem_of_getElem? ha)
   ·exact hoth i b s k (Ne.symm hi) hs2 (List.mem_of_mem_drop (List.mem_of_getElem? ha)) hb)
  (nodup_self (hnd.sublist (List.drop_sublist _ _)))
 have zne : ∀ i, (∃ s, S[i]? = some s ∧ s ≠ zS) → i ≠ f2 := fun i hz e => by
  subst e
  obtain ⟨s, hs, hzz⟩ := (l1 i hz).2
  rw [hf2] at hs
  exact hzz (Option.some.inj hs).symm
 refine ⟨_, w3, fun i hi => ?_, fun i hi hz => ?_, ⟨_, by rw [set_ne hne.symm]; exact set_eq hlt1, nz2 _, fun _ => by simp⟩, fun _ => ⟨f2, rfl, h4, ⟨_, set_eq (List.getElem?_eq_some_iff.1 hf21).1, nz2 _, by simp⟩, by simp [hlat], h3⟩⟩
 ·exact ⟨by simp only [if_neg (zne i hi)]; exact (l1 i hi).1, nz_set (nz_set (l1 i hi).2 (nz2 _)) (nz2 _)⟩
 ·rw [set_ne (Ne.symm (zne i hz)), set_ne (fun e => by subst e; omega)]
  exact k1 i (by omega) hz
end
section
variable {S : List Sk} {lv : Nat → Nat} {root : Nat} {x : Nat → Nat}
theorem WF.clear (h : WF S lv root x) {b : Nat} (hb : b ≠ root) (hun : ∀ (i : Nat) s, S[i]? = some s → (b : Int) ∉ s.2.2.2) : WF (S.set b zS) lv root x := by
 have get : ∀ {i : Nat} {s : Sk}, (S.set b zS)[i]? = some s → s = zS ∨ (i ≠ b ∧ S[i]? = some s) := fun {i s} hs => by
  rcases get_set hs with ⟨_, e, _⟩ | ⟨hne, hs⟩
  ·exact .inl e
  ·exact .inr ⟨Ne.symm hne, hs⟩
 refine ⟨by rw [List.length_set]; exact h.len, ?_, fun i s hs hl => ?_, fun i s hs hl hz => ?_, fun i s hs => ?_, fun i s hs k hk => ?_, fun i s hs hz => ?_, fun i j a c s t k hs ht ha hc => ?_⟩
 ·obtain ⟨s, hs, hz⟩ := h.rt
  exact ⟨s, by rw [set_ne hb]; exact hs, hz⟩
 ·rcases get hs with rfl | ⟨_, hs⟩
  ·cases hl
  ·exact h.leaf i s hs hl
 ·rcases get hs with rfl | ⟨_, hs⟩
  ·exact (hz rfl).elim
  ·exact h.inner i s hs hl hz
 ·rcases get hs with rfl | ⟨_, hs⟩
  ·exact Nat.zero_le _
  ·exact h.four i s hs
 ·rcases get hs with rfl | ⟨_, hs⟩
  ·cases hk
  ·obtain ⟨j, e, h1, ⟨t, ht, hz⟩, h3⟩ := h.kid i s hs k hk
   refine ⟨j, e, h1, ⟨t, ?_, hz⟩, h3⟩
   rw [set_ne]
   ·exact ht
   ·rintro rfl
    exact hun i s hs (by rw [← e]; exact hk)
 ·rcases get hs with rfl | ⟨_, hs⟩
  ·exact (hz rfl).elim
  ·exact h.min i s hs hz
 ·rcases get hs with rfl | ⟨_, hs⟩
  ·simp at ha
  ·rcases get ht with rfl | ⟨_, ht⟩
   ·simp at hc
   ·exact h.inj i j a c s t k hs ht ha hc
theorem drop_leaf (h : WF S lv root x0) {at' K V : Nat} {I : List Int} (ho : S[at']? = some (true, K, V, I)) (hK : 0 < K) : WF (S.set at' (true, K - 1, K - 1, [])) lv root (x1 at') := by
 refine h.set (n := (true, K - 1, K - 1, [])) ho (by simp) (by simp) rfl (fun _ => ⟨rfl, rfl⟩) (fun e => by cases e) ?_ (fun i _ => Nat.zero_le _) ⟨fun hr => ?_, fun e => by cases e⟩ (fun k hk => by cases hk) (fun _ _ _ _ _ _ _ hk => by simp at hk) (fun _ _ _ hk => by simp at hk)
 ·have := h.four at' _ ho
  simp only at this ⊢
  omega
 ·have := (h.min at' _ ho (by simp)).1 hr
  simp only [x0, x1, if_true] at this ⊢
  omega
theorem WF.enough {j : Nat} (h : WF S lv root (x1 j)) {s : Sk} (hs : S[j]? = some s) (h2 : 2 ≤ s.2.1) : WF S lv root x0 := by
 refine ⟨h.len, h.rt, h.leaf, h.inner, h.four, h.kid, fun i t ht hz => ?_, h.inj⟩
 by_cases e : i = j
 ·subst e
  rw [hs] at ht
  obtain rfl := Option.some.inj ht
  exact ⟨fun _ => by omega, fun _ => by omega⟩
 ·have := h.min i t ht hz
  simp only [x1, if_neg e] at this
  exact this
theorem WF.lend {j l : Nat} (h : WF S lv root (x1 j)) {ol oj nl nj : Sk} (hol : S[l]? = some ol) (hoj : S[j]? = some oj) (hne : l ≠ j) (hzl : ol ≠ zS) (hzj : oj ≠ zS) (hlv : lv l = lv j) (hfl : nl.1 = ol.1) (hfj : nj.1 = oj.1)
  (hll : nl.1 = true → nl.2.2.1 = nl.2.1 ∧ nl.2.2.2 = []) (hli : nl.1 = false → nl.2.2.1 = 0 ∧ nl.2.2.2.length = nl.2.1 + 1) (hjl : nj.1 = true → nj.2.2.1 = nj.2.1 ∧ nj.2.2.2 = []) (hji : nj.1 = false → nj.2.2.1 = 0 ∧ nj.2.2.2.length = nj.2.1 + 1)
  (hl2 : 2 ≤ nl.2.1) (hl4 : nl.2.1 ≤ 4) (hj2 : 2 ≤ nj.2.1) (hj4 : nj.2.1 ≤ 4) (hml : ∀ k ∈ nl.2.2.2, k ∈ ol.2.2.2) (hnl : nl.2.2.2.Nodup) (hmj : ∀ k ∈ nj.2.2.2, k ∈ oj.2.2.2 ∨ (k ∈ ol.2.2.2 ∧ k ∉ nl.2.2.2)) (hnj : nj.2.2.2.Nodup) : WF ((S.set l nl).set j nj) lv root x0 := by
 have nzl : nl ≠ zS := fun e => by rw [e] at hl2; exact absurd hl2 (by decide)
 have nzj : nj ≠ zS := fun e => by rw [e] at hj2; exact absurd hj2 (by decide)
 have hlt := (List.getElem?_eq_some_iff.1 hol).1
 have w1 : WF (S.set l nl) lv root (x1 j) := by
  refine h.set hol hzl nzl hfl hll hli hl4 (fun i _ => Nat.le_refl _) ⟨fun _ => by omega, fun _ => by omega⟩ (fun k hk => h.kid l ol hol k (hml k hk)) (fun i a b s k hi hs ha hb => ?_) (nodup_self hnl)
  obtain ⟨c, hc⟩ := List.getElem?_of_mem (hml k (List.mem_of_getElem? ha))
  exact hi ((h.inj l i c b ol s k hol hs hc hb).1.symm)
 have hoj1 : (S.set l nl)[j]? = some oj := by rw [set_ne hne]; exact hoj
 refine w1.set hoj1 hzj nzj hfj hjl hji hj4 (fun i hi => by simp only [x1, if_neg hi]; exact Nat.le_refl _) ⟨fun _ => by omega, fun _ => by omega⟩ (fun k hk => ?_) (fun i a b s k hi hs ha hb => ?_) (nodup_self hnj)
 ·rcases hmj k hk with hk | ⟨hk, _⟩
  ·exact w1.kid j oj hoj1 k hk
  ·obtain ⟨j', e, q1, q2, q3⟩ := h.kid l ol hol k hk
   exact ⟨j', e, q1, nz_set q2 nzl, by omega⟩
 ·rcases hmj k (List.mem_of_getElem? ha) with hk | ⟨hk, hk'⟩
  ·obtain ⟨c, hc⟩ := List.getElem?_of_mem hk
   exact hi ((w1.inj j i c b oj s k hoj1 hs hc hb).1.symm)
  ·rcases get_set hs with ⟨rfl, rfl, _⟩ | ⟨hil, hs2⟩
   ·exact hk' (List.mem_of_getElem? hb)
   ·obtain ⟨c, hc⟩ := List.getElem?_of_mem hk
    exact hil (h.inj l i c b ol s k hol hs2 hc hb).1
theorem WF.relax {y : Nat → Nat} (h : WF S lv root x) (hy : ∀ (i : Nat) s, S[i]? = some s → s ≠ zS → x i ≤ y i) : WF S lv root y :=
 ⟨h.len, h.rt, h.leaf, h.inner, h.four, h.kid, fun i s hs hz => ⟨fun hr => by have := (h.min i s hs hz).1 hr; have := hy i s hs hz; omega, fun hl => by have := (h.min i s hs hz).2 hl; have := hy i s hs hz; omega⟩, h.inj⟩
theorem WF.merge {j a b at' K V : Nat} {kids kids' : List Int} (h : WF S lv root (x1 j)) (hj : j = a ∨ j = b) {oa ob na : Sk} (hat : S[at']? = some (false, K, V, kids)) (hK : 0 < K) (hoa : S[a]? = some oa) (hob : S[b]? = some ob) (hza : oa ≠ zS) (hka : (a : Int) ∈ kids) (hkb : (b : Int) ∈ kids) (hab : a ≠ b)
  (hlen : kids'.length = K) (hnd : kids'.Nodup) (hsub : ∀ k ∈ kids', k ∈ kids) (hbn : (b : Int) ∉ kids') (hfa : na.1 = oa.1) (hal : na.1 = true → na.2.2.1 = na.2.1 ∧ na.2.2.2 = []) (hai : na.1 = false → na.2.2.1 = 0 ∧ na.2.2.2.length = na.2.1 + 1) (ha2 : 2 ≤ na.2.1) (ha4 : na.2.1 ≤ 4)
  (hma : ∀ k ∈ na.2.2.2, k ∈ oa.2.2.2 ∨ k ∈ ob.2.2.2) (hna : na.2.2.2.Nodup) : WF (((S.set at' (false, K - 1, 0, kids')).set b zS).set a na) lv root (x1 at') := by
 have nza : na ≠ zS := fun e => by rw [e] at ha2; exact absurd ha2 (by decide)
 have hz0 : ((false, K, V, kids) : Sk) ≠ zS := by intro e; injection e with _ e; injection e with e; omega
 have hz1 : ((false, K - 1, 0, kids') : Sk) ≠ zS := by
  intro e
  injection e with _ e; injection e with _ e; injection e with _ e
  rw [e] at hlen
  simp at hlen
  omega
 have kid : ∀ {k : Nat}, (k : Int) ∈ kids → k ≠ root ∧ lv k + 1 = lv at' := fun {k} hk => by
  obtain ⟨j', e, q1, _, q3⟩ := h.kid at' _ hat _ hk
  obtain rfl : k = j' := by omega
  exact ⟨q1, q3⟩
 obtain ⟨ra, la⟩ := kid hka
 obtain ⟨rb, lb⟩ := kid hkb
 have na' : at' ≠ a := by rintro rfl; omega
 have nb' : at' ≠ b := by rintro rfl; omega
 have w1 : WF (S.set at' (false, K - 1, 0, kids')) lv root (fun i => if i = at' ∨ i = j then 1 else 0) := by
  refine h.set (n := (false, K - 1, 0, kids')) hat hz0 hz1 rfl (fun e => by cases e) (fun _ => ⟨rfl, by simp only; omega⟩) (by have := h.four at' _ hat; simp only at this ⊢; omega) (fun i hi => ?_) ⟨fun hr => ?_, fun _ => ?_⟩ (fun k hk => h.kid at' _ hat k (hsub k hk)) (fun i c d s k hi hs hc hd => ?_) (nodup_self hnd)
  ·simp only [x1]
   split <;> split <;> simp_all
  ·have := (h.min at' _ hat hz0).1 hr
   have hj' : at' ≠ j := by rcases hj with rfl | rfl <;> assumption
   simp only [x1, if_neg hj', true_or, if_true] at this ⊢
   omega
  ·simp only [true_or, if_true]; omega
  ·obtain ⟨e, he⟩ := List.getElem?_of_mem (hsub k (List.mem_of_getElem? hc))
   exact hi ((h.inj at' i e d _ s k hat hs he hd).1.symm)
 have hb1 : ∀ (i : Nat) s, (S.set at' (false, K - 1, 0, kids'))[i]? = some s → (b : Int) ∉ s.2.2.2 := fun i s hs hk => by
  rcases get_set hs with ⟨rfl, rfl, _⟩ | ⟨hne, hs2⟩
  ·exact hbn hk
  ·obtain ⟨c, hc⟩ := List.getElem?_of_mem hk
   obtain ⟨d, hd⟩ := List.getElem?_of_mem hkb
   exact hne ((h.inj at' i d c _ s _ hat hs2 hd hc).1)
 have w2 : WF ((S.set at' (false, K - 1, 0, kids')).set b zS) lv root (fun i => if i = at' ∨ i = a then 1 else 0) := (w1.clear rb hb1).relax (fun i s hs hz => by
  rcases get_set hs with ⟨rfl, rfl, _⟩ | ⟨hne, _⟩
  ·exact (hz rfl).elim
  ·by_cases e1 : i = at'
   ·simp [e1]
   ·by_cases e2 : i = j
    ·subst e2
     rcases hj with rfl | rfl
     ·simp
     ·exact (hne rfl).elim
    ·simp [e1, e2])
 have hoa2 : ((S.set at' (false, K - 1, 0, kids')).set b zS)[a]? = some oa := by rw [set_ne (Ne.symm hab), set_ne na']; exact hoa
 refine w2.set hoa2 hza nza hfa hal hai ha4 (y := x1 at') (fun i hi => ?_) ⟨fun _ => by omega, fun _ => by omega⟩ (fun k hk => ?_) (fun i c d s k hi hs hc hd => ?_) (nodup_self hna)
 ·by_cases e1 : i = at'
  ·simp [e1, x1]
  ·simp [e1, hi]
 ·rcases hma k hk with hk | hk
  ·exact w2.kid a oa hoa2 k hk
  ·obtain ⟨j', e, q1, q2, q3⟩ := h.kid b ob hob k hk
   refine ⟨j', e, q1, ?_, by omega⟩
   obtain ⟨t, ht, hz⟩ := nz_set (f := at') q2 hz1
   refine ⟨t, ?_, hz⟩
   rw [set_ne]
   ·exact ht
   ·rintro rfl
    omega
 ·rcases get_set hs with ⟨rfl, rfl, _⟩ | ⟨hib, hs2⟩
  ·simp at hd
  rcases hma k (List.mem_of_getElem? hc) with hk | hk
  ·obtain ⟨e, he⟩ := List.getElem?_of_mem hk
   exact hi ((w2.inj a i e d oa s k hoa2 hs he hd).1.symm)
  ·obtain ⟨e, he⟩ := List.getElem?_of_mem hk
   rcases get_set hs2 with ⟨rfl, rfl, _⟩ | ⟨hia, hs3⟩
   ·have hk2 := hsub k (List.mem_of_getElem? hd)
    obtain ⟨e2, he2⟩ := List.getElem?_of_mem hk2
    exact nb' (h.inj at' b e2 e _ ob k hat hob he2 he).1
   ·exact hib ((h.inj b i e d ob s k hob hs3 he hd).1)
theorem WF.shrink (h : WF S lv root x) {V : Nat} {k : Nat} (ho : S[root]? = some (false, 0, V, [(k : Int)])) : WF (S.set root zS) lv k x := by
 have hz : ((false, 0, V, [(k : Int)]) : Sk) ≠ zS := by simp
 obtain ⟨k', e, hkr, ⟨t, ht, htz⟩, hkl⟩ := h.kid root _ ho _ (List.mem_singleton.2 rfl)
 obtain rfl : k = k' := by omega
 have get : ∀ {i : Nat} {s : Sk}, (S.set root zS)[i]? = some s → s = zS ∨ (i ≠ root ∧ S[i]? = some s) := fun {i s} hs => by
  rcases get_set hs with ⟨_, e, _⟩ | ⟨hne, hs⟩
  ·exact .inl e
  ·exact .inr ⟨Ne.symm hne, hs⟩
 refine ⟨by rw [List.length_set]; exact h.len, ⟨t, by rw [set_ne (Ne.symm hkr)]; exact ht, htz⟩, fun i s hs hl => ?_, fun i s hs hl hz => ?_, fun i s hs => ?_, fun i s hs q hq => ?_, fun i s hs hz => ?_, fun i j a c s t q hs ht ha hc => ?_⟩
 ·rcases get hs with rfl | ⟨_, hs⟩
  ·cases hl
  ·exact h.leaf i s hs hl
 ·rcases get hs with rfl | ⟨_, hs⟩
  ·exact (hz rfl).elim
  ·exact h.inner i s hs hl hz
 ·rcases get hs with rfl | ⟨_, hs⟩
  ·exact Nat.zero_le _
  ·exact h.four i s hs
 ·rcases get hs with rfl | ⟨hir, hs⟩
  ·cases hq
  ·obtain ⟨j, e5, h1, ⟨t', ht', hz'⟩, h3⟩ := h.kid i s hs q hq
   refine ⟨j, e5, fun e6 => ?_, ⟨t', by rw [set_ne (Ne.symm h1)]; exact ht', hz'⟩, h3⟩
   obtain ⟨c, hc⟩ := List.getElem?_of_mem hq
   exact hir (h.inj i root c 0 s _ q hs ho hc (by rw [e5, e6]; rfl)).1
 ·rcases get hs with rfl | ⟨hir, hs⟩
  ·exact (hz rfl).elim
  ·exact ⟨fun _ => (h.min i s hs hz).1 hir, (h.min i s hs hz).2⟩
 ·rcases get hs with rfl | ⟨_, hs⟩
  ·simp at ha
  ·rcases get ht with rfl | ⟨_, ht⟩
   ·simp at hc
   ·exact h.inj i j a c s t q hs ht ha hc
theorem WF.grow {lv1 : Nat → Nat} (h : WF S lv1 root x0) {o t : Sk} {f f2 : Nat} (ho : S[root]? = some o) (hoz : o ≠ zS) (ho2 : 2 ≤ o.2.1) (hfr : f ≠ root) (ht : S[f]? = some t) (htz : t ≠ zS) (hlf : lv1 f = lv1 root) (hun : ∀ (i : Nat) s, S[i]? = some s → (f : Int) ∉ s.2.2.2) (hf2 : S[f2]? = some zS) :
  WF (S.set f2 (false, 1, 0, [(root : Int), (f : Int)])) (fun i => if i = f2 then lv1 root + 1 else lv1 i) f2 x0 := by
 have hlt : f2 < S.length := (List.getElem?_eq_some_iff.1 hf2).1
 have nz : ∀ {j : Nat}, (∃ t, S[j]? = some t ∧ t ≠ zS) → j ≠ f2 := by
  rintro j ⟨t, ht, hz⟩ rfl
  rw [hf2] at ht
  exact hz (Option.some.inj ht).symm
 have hr2 : root ≠ f2 := nz ⟨o, ho, hoz⟩
 have hff : f ≠ f2 := nz ⟨t, ht, htz⟩
 have unroot : ∀ (i : Nat) s, S[i]? = some s → (root : Int) ∉ s.2.2.2 := fun i s hs hk => by
  obtain ⟨j, e, q, _⟩ := h.kid i s hs _ hk
  omega
 have nzn : ((false, 1, 0, [(root : Int), (f : Int)]) : Sk) ≠ zS := by simp
 refine ⟨by rw [List.length_set]; exact h.len, ⟨_, set_eq hlt, nzn⟩, fun i s hs hls => ?_, fun i s hs hls hz => ?_, fun i s hs => ?_, fun i s hs k hk => ?_, fun i s hs hz => ?_, fun i j a b s t' k hs ht' ha hb => ?_⟩
 ·rcases get_set hs with ⟨rfl, rfl, _⟩ | ⟨hne, hs⟩
  ·cases hls
  ·obtain ⟨q1, q2, q3⟩ := h.leaf i s hs hls
   exact ⟨q1, q2, by simp only [if_neg (Ne.symm hne)]; exact q3⟩
 ·rcases get_set hs with ⟨rfl, rfl, _⟩ | ⟨hne, hs⟩
  ·exact ⟨rfl, rfl, by simp⟩
  ·obtain ⟨q1, q2, q3⟩ := h.inner i s hs hls hz
   exact ⟨q1, q2, by simp only [if_neg (Ne.symm hne)]; exact q3⟩
 ·rcases get_set hs with ⟨rfl, rfl, _⟩ | ⟨hne, hs⟩
  ·simp
  ·exact h.four i s hs
 ·rcases get_set hs with ⟨rfl, rfl, _⟩ | ⟨hne, hs⟩
  ·simp only [List.mem_cons, List.not_mem_nil, or_false] at hk
   rcases hk with rfl | rfl
   ·exact ⟨root, rfl, hr2, ⟨o, by rw [set_ne (Ne.symm hr2)]; exact ho, hoz⟩, by simp only [if_neg hr2, if_true]⟩
   ·exact ⟨f, rfl, hff, ⟨t, by rw [set_ne (Ne.symm hff)]; exact ht, htz⟩, by simp only [if_neg hff, if_true]; omega⟩
  ·obtain ⟨j, e, h1, h2, h3⟩ := h.kid i s hs k hk
   have hj2 := nz h2
   obtain ⟨t2, ht2, hz2⟩ := h2
   exact ⟨j, e, hj2, ⟨t2, by rw [set_ne (Ne.symm hj2)]; exact ht2, hz2⟩, by simp only [if_neg hj2, if_neg (Ne.symm hne)]; exact h3⟩
 ·rcases get_set hs with ⟨rfl, rfl, _⟩ | ⟨hne, hs2⟩
  ·exact ⟨fun e => (e rfl).elim, fun _ => by simp⟩
  ·skip
   refine ⟨fun _ => ?_, (h.min i s hs2 hz).2⟩
   by_cases e : i = root
   ·have := hs2.symm.trans (e ▸ ho)
    obtain rfl := Option.some.inj this
    simp only [x0]; omega
   ·exact (h.min i s hs2 hz).1 e
 ·rcases get_set hs with ⟨rfl, rfl, _⟩ | ⟨hne, hs2⟩ <;> rcases get_set ht' with ⟨e, e2, _⟩ | ⟨hne', ht2⟩
  ·subst e2
   refine ⟨e, nodup_self (l := [(root : Int), (f : Int)]) ?_ a b k ha hb⟩
   simp
   omega
  ·have hk := List.mem_of_getElem? ha
   simp only [List.mem_cons, List.not_mem_nil, or_false] at hk
   rcases hk with rfl | rfl
   ·exact (unroot j t' ht2 (List.mem_of_getElem? hb)).elim
   ·exact (hun j t' ht2 (List.mem_of_getElem? hb)).elim
  ·subst e e2
   have hk := List.mem_of_getElem? hb
   simp only [List.mem_cons, List.not_mem_nil, or_false] at hk
   rcases hk with rfl | rfl
   ·exact (unroot i s hs2 (List.mem_of_getElem? ha)).elim
   ·exact (hun i s hs2 (List.mem_of_getElem? ha)).elim
  ·exact h.inj i j a b s t' k hs2 ht2 ha hb
end
end Go.Proofs.Ytcolgghllacloaa.Tm
end

section
namespace Go.Proofs.Ytcolgghllacloaa.Tm
open Go.Rf (RowIn strs ints rep nodeT ownL blk Src)
open Go.RowKit Go.Proofs.Ytcolgghllacloaa.Q Go.Proofs.YtcolgghllacloaaW.PrintWords Go.Proofs.YtcolgghllacloaaW.PrintLast Go.Proofs.YtcolgghllacloaaW.PrintMore
def lk : List (Nat × Value) → Nat → Option Value
 | [], _ => none
 | (k, v) :: l, j => bif Nat.beq k j then some v else lk l j
def ev (L : List (Nat × Value)) : Operand → Option Value
 | .tmp t => lk L t
 | .const v => some v
 | _ => none
structure Tm (a : Act) (n : Nat) (L : List (Nat × Value)) : Prop where
 size : a.tmps.size = n
 dfr : a.defers = []
 get : ∀ k v, lk L k = some v → a.tmps[k]? = some v
section
variable {a : Act} {n : Nat} {L : List (Nat × Value)}
theorem Tm.ev (h : Tm a n L) {x : Operand} {v : Value} (hx : ev L x = some v) : a.eval x = v := by
 cases x with
 | tmp t =>
  have := h.get t v hx
  simp [Act.eval, this]
 | const u => simpa [Tm.ev, Go.Proofs.Ytcolgghllacloaa.Tm.ev, Act.eval] using hx
 | _ => cases hx
theorem Tm.put (h : Tm a n L) {d : Nat} {v : Value} (hd : Nat.blt d n = true) : Tm (a.put (some d) v) n ((d, v) :: L) := by
 have hd : d < n := by simpa [Nat.blt_eq] using hd
 refine ⟨by simp [Act.put, h.size], h.dfr, fun k u hk => ?_⟩
 unfold lk at hk
 show (a.tmps.setIfInBounds d v)[k]? = some u
 cases e : Nat.beq d k with
 | true =>
  obtain rfl := Nat.eq_of_beq_eq_true e
  rw [e] at hk
  rw [Array.getElem?_setIfInBounds_self, if_pos (by rw [h.size]; exact hd)]
  exact hk
 | false =>
  rw [e] at hk
  have hne : d ≠ k := fun hh => by subst hh; simp at e
  rw [Array.getElem?_setIfInBounds_ne hne]
  exact h.get k u hk
end
def QY (P : Program) (o : Oper) (L : List (Nat × Value)) (w : World) (v : Value) : Prop := ∀ (a : Act) (n : Nat), Tm a n L → (execOp a.eval o).run P w = .ok (.value v) w
def WY (P : Program) (o : Oper) (L : List (Nat × Value)) (w : World) (R : Value → World → Prop) : Prop :=
 ∀ (a : Act) (n : Nat), Tm a n L → ∀ (K : Act → World → Prop) (Q : Exit → Act → World → Prop), (∀ v w', R v w' → K (a.put o.dst v) w') → o.wp P a w K Q
section
variable {P : Program} {o : Oper} {L : List (Nat × Value)} {w : World} {v : Value}
theorem WY.mono {R R' : Value → World → Prop} (h : WY P o L w R) (hr : ∀ v w', R v w' → R' v w') : WY P o L w R' := fun a n hT K Q hK => h a n hT K Q fun v w' hv => hK v w' (hr v w' hv)
theorem wy_value {R : Value → World → Prop} (h : ∀ (a : Act) (n : Nat), Tm a n L → ∃ v w', (execOp a.eval o).run P w = .ok (.value v) w' ∧ R v w') : WY P o L w R := fun a n hT K Q hK => by
 obtain ⟨v, w', hr, hR⟩ := h a n hT
 unfold Oper.wp
 rw [hr]
 exact hK v w' hR
theorem wy_skip {R : Value → World → Prop} (h : ∀ (a : Act) (n : Nat), Tm a n L → ∃ w', (execOp a.eval o).run P w = .ok .skip w' ∧ R undef w') : WY P o L w R := fun a n hT K Q hK => by
 obtain ⟨w', hr, hR⟩ := h a n hT
 unfold Oper.wp
 rw [hr]
 exact hK undef w' hR
theorem q_move {x : Operand} (ho : o.op = .move x) (hx : ev L x = some v) : QY P o L w v := fun a n hT => by simp only [execOp, ho, hT.ev hx]; rfl
theorem q_assign {x : Operand} (ho : o.op = .assign x) (hx : ev L x = some v) : QY P o L w v := fun a n hT => by simp only [execOp, ho, hT.ev hx]; rfl
theorem q_field {s : TypeId} {x : Operand} {f b j m : Nat} (ho : o.op = .fieldAddr s x f) (hx : ev L x = some (.pointer (some ⟨b, j, none⟩))) (hf : ∀ (b j f : Nat) (w : World), f < m → (Instr.fieldAt s (.pointer (some ⟨b, j, none⟩)) f).run P w = .ok (.pointer (some ⟨b, j + f, none⟩)) w) (hm : Nat.blt f m = true) :
  QY P o L w (.pointer (some ⟨b, j + f, none⟩)) := fun a n hT => by
 simp only [execOp, ho, hT.ev hx, Sem.run_bind, hf b j f w (by simpa [Nat.blt_eq] using hm)]
 rfl
theorem q_load {t : TypeId} {x : Operand} {a : Addr} (ho : o.op = .load t x) (hx : ev L x = some (.pointer (some a))) (h : (Instr.loadAt t (.pointer (some a))).run P w = .ok v w) : QY P o L w v := fun a n hT => by
 simp only [execOp, ho, hT.ev hx, Sem.run_bind, h]
 rfl
theorem q_index {t : TypeId} {x y : Operand} {X I : Value} (ho : o.op = .indexAddr t x y) (hx : ev L x = some X) (hy : ev L y = some I) (h : (Instr.indexAt t X I).run P w = .ok v w) : QY P o L w v := fun a n hT => by
 simp only [execOp, ho, hT.ev hx, hT.ev hy, Sem.run_bind, h]
 rfl
theorem q_extract {x : Operand} {k : Nat} {vs : Array Value} (ho : o.op = .extract x k) (hx : ev L x = some (.tuple vs)) (hv : vs[k]? = some v) : QY P o L w v := fun a n hT => by
 simp only [execOp, ho, hT.ev hx]
 simp [go_sem, Instr.extract, hv]
theorem q_len {x : Operand} {t e : TypeId} {A : Option Addr} {k c : Nat} (ho : o.op = .call { callee := .builtin .len, args := #[x], argTypes := #[t] }) (ht : P.underlying t = some (.slice e)) (hx : ev L x = some (.slice A k c)) : QY P o L w (.int .i64 (k : Int)) := fun a n hT => by
 simp only [execOp, ho, resolve, List.map_toArray, List.map_cons, List.map_nil, hT.ev hx]
 simp [go_sem, invoke, builtin, Builtin.len_, run_underlying ht, goInt]
theorem q_not {x : Operand} {t : TypeId} {b : Bool} (ho : o.op = .unOp .not t x) (hx : ev L x = some (.bool b)) : QY P o L w (.bool (!b)) := fun a n hT => by
 simp only [execOp, ho, hT.ev hx]
 simp [go_sem]
theorem q_pick {c x y : Operand} {b : Bool} {X Y : Value} (ho : o.op = .pick c x y) (hc : ev L c = some (.bool b)) (hx : ev L x = some X) (hy : ev L y = some Y) : QY P o L w (if b then X else Y) := fun a n hT => by
 simp only [execOp, ho, hT.ev hc, hT.ev hx, hT.ev hy]
 cases b <;> simp [go_sem]
theorem q_pick_t {c x y : Operand} {X : Value} (ho : o.op = .pick c x y) (hc : ev L c = some (.bool true)) (hx : ev L x = some X) : QY P o L w X := fun a n hT => by
 simp only [execOp, ho, hT.ev hc, hT.ev hx]
 simp [asBool]
theorem q_pick_f {c x y : Operand} {Y : Value} (ho : o.op = .pick c x y) (hc : ev L c = some (.bool false)) (hy : ev L y = some Y) : QY P o L w Y := fun a n hT => by
 simp only [execOp, ho, hT.ev hc, hT.ev hy]
 simp [asBool]
theorem q_slice {t : TypeId} {x : Operand} {lo hi : Option Operand} {X : Value} (ho : o.op = .slice t x lo hi none) (hx : ev L x = some X) {LO HI : Option Value} (hlo : lo.map (ev L) = LO.map some) (hhi : hi.map (ev L) = HI.map some)
  (h : (Instr.sliceAt t X LO HI none).run P w = .ok v w) : QY P o L w v := fun a n hT => by
 have e1 : lo.map a.eval = LO := by
  cases lo with
  | none => cases LO with
   | none => rfl
   | some _ => cases hlo
  | some x => cases LO with
   | none => cases hlo
   | some y => simp only [Option.map_some, Option.some.injEq] at hlo; rw [Option.map_some, hT.ev hlo]
 have e2 : hi.map a.eval = HI := by
  cases hi with
  | none => cases HI with
   | none => rfl
   | some _ => cases hhi
  | some x => cases HI with
   | none => cases hhi
   | some y => simp only [Option.map_some, Option.some.injEq] at hhi; rw [Option.map_some, hT.ev hhi]
 simp only [execOp, ho, hT.ev hx, e1, e2, Option.map_none, Sem.run_bind, h]
 rfl
theorem q_bin {op : BinOp} {tx ty : TypeId} {x y : Operand} {X Y : Value} (ho : o.op = .binOp op tx x y ty) (hx : ev L x = some X) (hy : ev L y = some Y) (h : (do eqGuard op tx x y X Y; binOp op tx X Y : Sem Value).run P w = .ok v w) : QY P o L w v := fun a n hT => by
 simp only [execOp, ho, hT.ev hx, hT.ev hy]
 rw [Sem.run_bind, h]
 rfl
theorem q_build0 {t : TypeId} (ho : o.op = .build t #[]) (h : (Instr.build t #[]).run P w = .ok v w) : QY P o L w v := fun a n hT => by
 simp only [execOp, ho, List.map_toArray, List.map_nil, Sem.run_bind, h]
 rfl
theorem q_build1 {t : TypeId} {i : Nat} {x : Operand} {X : Value} (ho : o.op = .build t #[(i, x)]) (hx : ev L x = some X) (h : (Instr.build t #[(i, X)]).run P w = .ok v w) : QY P o L w v := fun a n hT => by
 simp only [execOp, ho, List.map_toArray, List.map_cons, List.map_nil, hT.ev hx, Sem.run_bind, h]
 rfl
theorem q_build3 {t : TypeId} {i j k : Nat} {x y z : Operand} {X Y Z : Value} (ho : o.op = .build t #[(i, x), (j, y), (k, z)]) (hx : ev L x = some X) (hy : ev L y = some Y) (hz : ev L z = some Z) (h : (Instr.build t #[(i, X), (j, Y), (k, Z)]).run P w = .ok v w) : QY P o L w v := fun a n hT => by
 simp only [execOp, ho, List.map_toArray, List.map_cons, List.map_nil, hT.ev hx, hT.ev hy, hT.ev hz, Sem.run_bind, h]
 rfl
theorem w_alloc {t : TypeId} {w' : World} (ho : o.op = .alloc t) (h : (Instr.alloc t true (.tuple #[])).run P w = .ok v w') : WY P o L w fun u W => u = v ∧ W = w' := wy_value fun a n hT => ⟨v, w', by simp only [execOp, ho, Sem.run_bind, h]; rfl, rfl, rfl⟩
theorem w_box {t : TypeId} {x : Operand} {X : Value} {w' : World} (ho : o.op = .box t x) (hx : ev L x = some X) (h : (Instr.box t X).run P w = .ok v w') : WY P o L w fun u W => u = v ∧ W = w' := wy_value fun a n hT => ⟨v, w', by simp only [execOp, ho, hT.ev hx, Sem.run_bind, h]; rfl, rfl, rfl⟩
theorem w_store {t : TypeId} {x y : Operand} {X Y : Value} {w' : World} (ho : o.op = .store t x y) (hx : ev L x = some X) (hy : ev L y = some Y) (h : (Instr.storeAt t X Y).run P w = .ok () w') : WY P o L w fun _ W => W = w' := wy_skip fun a n hT => ⟨w', by simp only [execOp, ho, hT.ev hx, hT.ev hy, Sem.run_bind, h]; rfl, rfl⟩
theorem w_callN {f : FuncId} {c : Call} {R : Value → World → Prop} {args : List Value} (ho : o.op = .call c) (hf : c.callee = .value (.func f)) (hk : Go.Rf.isKnown P f = true) (ha : c.args.toList.map (ev L) = args.map some)
  (h : Calls P f args.toArray w fun e w' => ∃ v, e = .returned v ∧ R v w') : WY P o L w R := fun a n hT K Q hK => by
 have e1 : c.args.map a.eval = args.toArray := by
  have : ∀ (l : List Operand) (m : List Value), l.map (ev L) = m.map some → l.map a.eval = m := by
   intro l
   induction l with
   | nil => intro m hm; cases m with
    | nil => rfl
    | cons _ _ => cases hm
   | cons x l ih => intro m hm; cases m with
    | nil => cases hm
    | cons y m =>
     simp only [List.map_cons, List.cons.injEq] at hm
     rw [List.map_cons, hT.ev hm.1, ih m hm.2]
  have h2 := this c.args.toList args ha
  rw [← h2, ← List.map_toArray]
 have hr : (execOp a.eval o).run P w = .ok (.enter f args.toArray) w := by
  simp only [execOp, ho, resolve, hf, e1]
  simp [Act.eval, Deferred.ofValue, invoke, go_sem, (Go.Rf.run_known hk).2]
 unfold Oper.wp
 rw [hr]
 refine Calls.mono h ?_
 rintro e w' ⟨v, rfl, hR⟩
 exact hK v w' hR
end
section
variable {P : Program} {ops : Array Oper} {Q : Exit → Act → World → Prop} {rest : List Oper} {o : Oper} {a : Act} {w : World} {n d : Nat} {L : List (Nat × Value)} {v : Value}
theorem L_q (hT : Tm a n L) (hg : o.guard = none) (hd : o.dst = some d) (hdn : Nat.blt d n = true) (hy : QY P o L w v) (h : ∀ a', Tm a' n ((d, v) :: L) → wpList P ops Q rest a' w) : wpList P ops Q (o :: rest) a w := by
 unfold wpList
 rw [if_pos (by simp [Region.wanted, hg])]
 left
 unfold Oper.wp
 rw [hy a n hT]
 show wpList P ops Q rest (a.put o.dst v) w
 rw [hd]
 exact h _ (hT.put hdn)
theorem L_qg {j t : Nat} {b : Bool} {oj : Oper} (hT : Tm a n L) (hg : o.guard = some (j, b)) (hj : ops[j]? = some oj) (hjd : oj.dst = some t) (ht : lk L t = some (.bool b)) (hd : o.dst = some d) (hdn : Nat.blt d n = true) (hy : QY P o L w v) (h : ∀ a', Tm a' n ((d, v) :: L) → wpList P ops Q rest a' w) : wpList P ops Q (o :: rest) a w := by
 unfold wpList
 rw [if_pos (by simp [Region.wanted, hg, yielded, hj, hjd, hT.get t _ ht])]
 left
 unfold Oper.wp
 rw [hy a n hT]
 show wpList P ops Q rest (a.put o.dst v) w
 rw [hd]
 exact h _ (hT.put hdn)
theorem L_qn {j t : Nat} {b b' : Bool} {oj : Oper} (hT : Tm a n L) (hg : o.guard = some (j, b)) (hj : ops[j]? = some oj) (hjd : oj.dst = some t) (ht : lk L t = some (.bool b')) (hb : (b' == b) = false) (hd : o.dst = some d) (hdn : Nat.blt d n = true) (h : ∀ a', Tm a' n ((d, undef) :: L) → wpList P ops Q rest a' w) : wpList P ops Q (o :: rest) a w := by
 unfold wpList
 have e : yielded ops a.tmps j = some b' := by simp [yielded, hj, hjd, hT.get t _ ht]
 have hn : Region.wanted o (yielded ops a.tmps) = false := by
  unfold Region.wanted
  rw [hg]
  simp only [e]
  cases b <;> cases b' <;> first | rfl | cases hb
 rw [if_neg (by rw [hn]; simp)]
 rw [hd]
 exact h _ (hT.put hdn)
theorem L_w {R : Value → World → Prop} (hT : Tm a n L) (hg : o.guard = none) (hd : o.dst = some d) (hdn : Nat.blt d n = true) (hy : WY P o L w R) (h : ∀ v w', R v w' → ∀ a', Tm a' n ((d, v) :: L) → wpList P ops Q rest a' w') : wpList P ops Q (o :: rest) a w := by
 unfold wpList
 rw [if_pos (by simp [Region.wanted, hg])]
 left
 refine hy a n hT _ _ fun v w' hR => ?_
 rw [hd]
 exact h v w' hR _ (hT.put hdn)
theorem L_s {R : Value → World → Prop} (hT : Tm a n L) (hg : o.guard = none) (hd : o.dst = none) (hy : WY P o L w R) (h : ∀ v w', R v w' → wpList P ops Q rest a w') : wpList P ops Q (o :: rest) a w := by
 unfold wpList
 rw [if_pos (by simp [Region.wanted, hg])]
 left
 refine hy a n hT _ _ fun v w' hR => ?_
 rw [hd]
 exact h v w' hR
end
section
variable {P : Program} {ops : Array Oper} {Q : Exit → Act → World → Prop} {md : Region.Mode} {S : World → Prop} {ks cs : List Nat}
def wpAnyM (P : Program) (md : Region.Mode) (ops : Array Oper) (Q : Exit → Act → World → Prop) (S : World → Prop) (ks cs : List Nat) : Nat → Array Bool → Act → World → Prop
 | 0, listed, a, w => Region.ready md ops listed = [] ∧ Q .normal a w
 | fuel + 1, listed, a, w =>
  (Region.ready md ops listed = [] → Q .normal a w) ∧
  ∀ i ∈ Region.ready md ops listed, wpOp P ops Q i (fun a' w' => (ks.contains i = true → (∀ c ∈ cs, listed.getD c true = false) → S w') ∧ wpAnyM P md ops Q S ks cs fuel (listed.setIfInBounds i true) a' w') a w
theorem wpAny_of_M : ∀ (fuel : Nat) (listed : Array Bool) (a : Act) (w : World), wpAnyM P md ops Q S ks cs fuel listed a w → wpAny P md ops Q fuel listed a w
 | 0, _, _, _, h => h
 | fuel + 1, _, _, _, h => ⟨h.1, fun i hi => wpOp_mono (fun a' w' h' => wpAny_of_M fuel _ a' w' h'.2) (h.2 i hi)⟩
theorem M_first {C : World → Prop} {M : List Nat} {i : Nat} {oi : Oper} {v : Value} (hi : ops[i]? = some oi) (hsel : ∀ (j : Nat) (o : Oper) cs b, ops[j]? = some o → o.op ≠ .select cs b)
  (hQ : ∀ c a w, Q (.panic c) (a.put oi.dst v) w → Q (.panic c) a w)
  (hM : ∀ m ∈ M, ∃ o, ops[m]? = some o ∧ ∃ e ∈ o.after, Region.binds md e = true ∧ (e.on = i ∨ e.on ∈ M)) (hic : i ∉ cs) :
  ∀ (fuel : Nat) (listed : Array Bool) (a : Act) (w : World),
   (∀ j oj, ops[j]? = some oj → j ≠ i → listed.getD j true = false → (∀ e ∈ oj.after, Region.binds md e = true → e.on ≠ i) → oi.apart ops oj = true) →
   (∀ j, j ∉ M → j ≠ i → j < ops.size → listed.getD j true = false → ∀ w', (ks.contains j = true → (∀ c ∈ cs, c ∈ M) → S w') → C w') → (∀ m ∈ M, listed.getD m true = false) →
   i ∈ Region.ready md ops listed → YieldsIf P ops C oi v a → C w → (∀ w', C w' → ks.contains i = true → S w') →
   wpAnyM P md ops Q S ks cs fuel (listed.setIfInBounds i true) (a.put oi.dst v) w → wpAnyM P md ops Q S ks cs (fuel + 1) listed a w := by
 intro fuel
 induction fuel with
 | zero =>
  intro listed a w _ _ _ hr hy hC hS H
  refine ⟨fun h => (by rw [h] at hr; cases hr), fun j hj => ?_⟩
  by_cases hji : j = i
  ·subst hji; exact hy.wpOp hi hC ⟨fun hk _ => hS w hC hk, H⟩
  ·have := ready_mono hj hji
   rw [H.1] at this
   cases this
 | succ fuel ih =>
  intro listed a w hfree hK hMl hr hy hC hS H
  refine ⟨fun h => (by rw [h] at hr; cases hr), fun j hj => ?_⟩
  by_cases hji : j = i
  ·subst hji; exact hy.wpOp hi hC ⟨fun hk _ => hS w hC hk, H⟩
  ·have h1 := H.2 j (ready_mono hj hji)
   obtain ⟨hjun, oj, hoj, hall⟩ := mem_ready.1 hj
   have hiun := (mem_ready.1 hr).1
   have off : ∀ k, listed.getD k true = false → listed.getD k false = true → False := fun k h0 h1 => by
    rcases Nat.lt_or_ge k listed.size with h' | h'
    ·simp [h'] at h0 h1; rw [h0] at h1; cases h1
    ·simp [Array.getElem?_eq_none h'] at h1
   have hnot : ∀ e ∈ oj.after, Region.binds md e = true → e.on ≠ i := fun e he hb heq => off i hiun (heq ▸ hall e he hb)
   have hjM : j ∉ M := fun hm => by
    obtain ⟨o, ho, e, he, hb, hon⟩ := hM j hm
    rw [hoj] at ho
    obtain rfl := Option.some.inj ho
    rcases hon with hon | hon
    ·exact hnot e he hb hon
    ·exact off e.on (hMl _ hon) (hall e he hb)
   have conv : (∀ c ∈ cs, listed.getD c true = false) → ∀ c ∈ cs, (listed.setIfInBounds i true).getD c true = false := fun h c hc => by
    have hne : i ≠ c := fun e => by subst e; exact hic hc
    rw [getD_set_ne true hne]
    exact h c hc
   have h2 := wpOp_putIf hoj (hfree j oj hoj hji hjun hnot) (fun cs b => hsel i oi cs b hi) (fun cs b => hsel j oj cs b hoj) hQ hy h1
   have hun : ∀ k, (listed.setIfInBounds j true).getD k true = false → listed.getD k true = false := fun k hk => by
    by_cases hjk : j = k
    ·subst hjk; exact hjun
    ·rw [getD_set_ne true hjk] at hk; exact hk
   refine wpOp_mono (fun a' w' h3 => ?_) h2
   have hC' : C w' := hK j hjM hji (Array.getElem?_eq_some_iff.1 hoj).1 hjun w' (fun hk hcs => h3.2.1 hk (conv fun c hc => hMl c (hcs c hc)))
   refine ⟨fun hk hcs => h3.2.1 hk (conv hcs), ih (listed.setIfInBounds j true) a' w' (fun k ok hk hki hu hno => hfree k ok hk hki (hun k hu) hno) (fun k hkM hki hkl hu => hK k hkM hki hkl (hun k hu)) (fun m hm => ?_) (ready_mono hr (Ne.symm hji)) h3.1 hC' hS ?_⟩
   ·have hjm : j ≠ m := fun e => hjM (e ▸ hm)
    rw [getD_set_ne true hjm]
    exact hMl m hm
   ·rw [Array.setIfInBounds_comm _ _ hji]
    exact h3.2.2
def takeOk (md : Region.Mode) (ops : Array Oper) (listed : Array Bool) (i : Nat) (ks cs M : List Nat) : Bool :=
 !cs.contains i && (cs.all fun c => M.contains c) && Region.noSelect ops && Region.free md ops listed i && (Region.ready md ops listed).contains i &&
 (M.all fun m => !listed.getD m true && match ops[m]? with
  | some o => o.after.any fun e => Region.binds md e && (e.on == i || M.contains e.on)
  | none => false) &&
 ((List.range ops.size).all fun j => j == i || listed.getD j true || ks.contains j || M.contains j)
def take0Ok (md : Region.Mode) (ops : Array Oper) (listed : Array Bool) (i : Nat) (ks cs : List Nat) : Bool :=
 !cs.contains i && Region.noSelect ops && Region.free md ops listed i && (Region.ready md ops listed).contains i && !ks.contains i
variable {a : Act} {w : World} {n d i fuel : Nat} {L : List (Nat × Value)} {v : Value} {o : Oper} {listed : Array Bool} {M : List Nat}
theorem M_q (i : Nat) (M : List Nat) (hT : Tm a n L) (hS : S w) (hi : ops[i]? = some o) (hc : takeOk md ops listed i ks cs M = true) (hg : o.guard = none) (hd : o.dst = some d) (hdn : Nat.blt d n = true) (hQ : ∀ c a w, Q (.panic c) (a.put (some d) v) w → Q (.panic c) a w)
  (hy : ∀ w', S w' → QY P o L w' v) (h : ∀ a', Tm a' n ((d, v) :: L) → wpAnyM P md ops Q S ks cs fuel (listed.setIfInBounds i true) a' w) : wpAnyM P md ops Q S ks cs (fuel + 1) listed a w := by
 unfold takeOk at hc
 simp only [Bool.and_eq_true, List.all_eq_true, List.mem_range] at hc
 obtain ⟨⟨⟨⟨⟨⟨hcn, hcM⟩, h1⟩, h2⟩, h3⟩, h4⟩, h5⟩ := hc
 refine M_first (C := S) (M := M) hi (Region.noSelect_spec h1) (by rw [hd]; exact hQ) (fun m hm => ?_) (by simpa using hcn) fuel listed a w (Region.free_spec hi h2) (fun j hj hji hjs hjl w' hw => ?_) (fun m hm => by have := (h4 m hm).1; simpa using this) (by simpa using h3) (.inl ⟨by simp [Region.wanted, hg], fun w' hw => hy w' hw a n hT⟩) hS (fun _ h _ => h) (by rw [hd]; exact h _ (hT.put hdn))
 ·have := (h4 m hm).2
  split at this
  ·rename_i o' ho'
   obtain ⟨e, he, hb⟩ := Array.any_eq_true'.1 this
   simp only [Bool.and_eq_true, Bool.or_eq_true, beq_iff_eq, List.contains_iff_mem] at hb
   exact ⟨o', ho', e, he, hb⟩
  ·cases this
 ·have := h5 j hjs
  simp only [Bool.or_eq_true, beq_iff_eq, hji, hjl, Bool.false_eq_true, false_or, List.contains_iff_mem] at this
  exact hw (by simpa using this.resolve_right hj) (fun c hc => by have := hcM c hc; simpa using this)
theorem M_q0 (i : Nat) (hT : Tm a n L) (hi : ops[i]? = some o) (hc : take0Ok md ops listed i ks cs = true) (hg : o.guard = none) (hd : o.dst = some d) (hdn : Nat.blt d n = true) (hQ : ∀ c a w, Q (.panic c) (a.put (some d) v) w → Q (.panic c) a w)
  (hy : ∀ w', QY P o L w' v) (h : ∀ a', Tm a' n ((d, v) :: L) → wpAnyM P md ops Q S ks cs fuel (listed.setIfInBounds i true) a' w) : wpAnyM P md ops Q S ks cs (fuel + 1) listed a w := by
 unfold take0Ok at hc
 simp only [Bool.and_eq_true] at hc
 obtain ⟨⟨⟨⟨hcn, h1⟩, h2⟩, h3⟩, h4⟩ := hc
 exact M_first (C := fun _ => True) (M := []) hi (Region.noSelect_spec h1) (by rw [hd]; exact hQ) (fun m hm => by cases hm) (by simpa using hcn) fuel listed a w (Region.free_spec hi h2) (fun _ _ _ _ _ _ _ => trivial) (fun m hm => by cases hm) (by simpa using h3) (.inl ⟨by simp [Region.wanted, hg], fun w' _ => hy w' a n hT⟩) trivial (fun _ _ hk => by rw [hk] at h4; cases h4) (by rw [hd]; exact h _ (hT.put hdn))
def At (P : Program) (md : Region.Mode) (ops : Array Oper) (Q : Exit → Act → World → Prop) (S : World → Prop) (ks cs : List Nat) (fuel : Nat) (listed : Array Bool) (a : Act) (w : World) (i : Nat) : Prop :=
 wpOp P ops Q i (fun a' w' => (ks.contains i = true → (∀ c ∈ cs, listed.getD c true = false) → S w') ∧ wpAnyM P md ops Q S ks cs fuel (listed.setIfInBounds i true) a' w') a w
theorem at_w {R : Value → World → Prop} (hT : Tm a n L) (hi : ops[i]? = some o) (hg : o.guard = none) (hd : o.dst = some d) (hdn : Nat.blt d n = true) (hy : WY P o L w R)
  (h : ∀ v w', R v w' → ∀ a', Tm a' n ((d, v) :: L) → (ks.contains i = true → (∀ c ∈ cs, listed.getD c true = false) → S w') ∧ wpAnyM P md ops Q S ks cs fuel (listed.setIfInBounds i true) a' w') : At P md ops Q S ks cs fuel listed a w i := by
 unfold At wpOp
 rw [hi]
 simp only
 rw [if_pos (by simp [Region.wanted, hg])]
 left
 refine hy a n hT _ _ fun v w' hR => ?_
 rw [hd]
 exact h v w' hR _ (hT.put hdn)
theorem at_s {R : Value → World → Prop} (hT : Tm a n L) (hi : ops[i]? = some o) (hg : o.guard = none) (hd : o.dst = none) (hy : WY P o L w R)
  (h : ∀ v w', R v w' → (ks.contains i = true → (∀ c ∈ cs, listed.getD c true = false) → S w') ∧ wpAnyM P md ops Q S ks cs fuel (listed.setIfInBounds i true) a w') : At P md ops Q S ks cs fuel listed a w i := by
 unfold At wpOp
 rw [hi]
 simp only
 rw [if_pos (by simp [Region.wanted, hg])]
 left
 refine hy a n hT _ _ fun v w' hR => ?_
 rw [hd]
 exact h v w' hR
theorem M_one (i : Nat) (hr : Region.ready md ops listed = [i]) (h : At P md ops Q S ks cs fuel listed a w i) : wpAnyM P md ops Q S ks cs (fuel + 1) listed a w :=
 ⟨fun h0 => (by rw [hr] at h0; cases h0), fun j hj => by rw [hr] at hj; obtain rfl := List.mem_singleton.1 hj; exact h⟩
theorem M_two (i j : Nat) (hr : Region.ready md ops listed = [i, j]) (h : At P md ops Q S ks cs fuel listed a w i) (h2 : At P md ops Q S ks cs fuel listed a w j) : wpAnyM P md ops Q S ks cs (fuel + 1) listed a w :=
 ⟨fun h0 => (by rw [hr] at h0; cases h0), fun k hk => by
  rw [hr] at hk
  rcases List.mem_cons.1 hk with rfl | hk
  ·exact h
  ·obtain rfl := List.mem_singleton.1 hk; exact h2⟩
theorem M_three (i j k : Nat) (hr : Region.ready md ops listed = [i, j, k]) (h : At P md ops Q S ks cs fuel listed a w i) (h2 : At P md ops Q S ks cs fuel listed a w j) (h3 : At P md ops Q S ks cs fuel listed a w k) : wpAnyM P md ops Q S ks cs (fuel + 1) listed a w :=
 ⟨fun h0 => (by rw [hr] at h0; cases h0), fun x hx => by
  rw [hr] at hx
  rcases List.mem_cons.1 hx with rfl | hx
  ·exact h
  rcases List.mem_cons.1 hx with rfl | hx
  ·exact h2
  ·obtain rfl := List.mem_singleton.1 hx; exact h3⟩
theorem M_end (hr : Region.ready md ops listed = []) (h : Q .normal a w) : wpAnyM P md ops Q S ks cs fuel listed a w := by
 cases fuel with
 | zero => exact ⟨hr, h⟩
 | succ fuel => exact ⟨fun _ => h, fun i hi => by rw [hr] at hi; cases hi⟩
theorem late {listed : Array Bool} (c : Nat) (h : ∀ c ∈ cs, listed.getD c true = false) (hc : c ∈ cs) (hl : listed.getD c true = true) : False := by
 have := h c hc
 rw [hl] at this
 cases this
theorem wp_region_M {n : Nat} (S : World → Prop) (ks cs : List Nat) {id : Nat} (hm : P.follows .mixedOrders = true) (hn : ops.size = n) (h : wpAnyM P .any ops Q S ks cs n (Array.replicate n false) a w.drew) : (Code.region id ops true).wp P Q a w := wp_region_any hm (by subst hn; exact wpAny_of_M _ _ _ _ h)
theorem wp_cut {c : Code} (R : Act → World → Prop) (h : c.wp P (fun e a w => e = .normal ∧ R a w) a w) (h2 : ∀ a w, R a w → Q .normal a w) : c.wp P Q a w := Code.wp_mono (fun e a w ⟨he, hR⟩ => by subst he; exact h2 a w hR) h
end
section
variable {P : Program} {md : Region.Mode} {ops : Array Oper} {Q : Exit → Act → World → Prop} {S : World → Prop} {ks cs : List Nat}
variable {a : Act} {w : World} {n d fuel : Nat} {L : List (Nat × Value)} {v : Value} {o : Oper} {listed : Array Bool} {rest : List Oper}
theorem lq (hT : Tm a n L) (hy : QY P o L w v) (h : ∀ a', Tm a' n ((d, v) :: L) → wpList P ops Q rest a' w) (hg : o.guard = none := by rfl) (hd : o.dst = some d := by rfl) (hdn : Nat.blt d n = true := by rfl) : wpList P ops Q (o :: rest) a w := L_q hT hg hd hdn hy h
theorem mq (i : Nat) (M : List Nat) (hT : Tm a n L) (hS : S w) (hi : ops[i]? = some o) (hy : ∀ w', S w' → QY P o L w' v) (h : ∀ a', Tm a' n ((d, v) :: L) → wpAnyM P md ops Q S ks cs fuel (listed.setIfInBounds i true) a' w) (hc : takeOk md ops listed i ks cs M = true := by kernel_rfl) (hg : o.guard = none := by rfl) (hd : o.dst = some d := by rfl) (hdn : Nat.blt d n = true := by rfl) (hQ : ∀ c a w, Q (.panic c) (a.put (some d) v) w → Q (.panic c) a w := by exact fun _ _ _ h => h) : wpAnyM P md ops Q S ks cs (fuel + 1) listed a w := M_q i M hT hS hi hc hg hd hdn hQ hy h
theorem mQ (i : Nat) (M : List Nat) (hT : Tm a n L) (hS : S w) (hi : ops[i]? = some o) (hy : ∀ w', S w' → QY P o L w' v) (h : ∀ a', Tm a' n ((d, v) :: L) → wpAnyM P md ops Q S ks cs fuel (listed.setIfInBounds i true) a' w) (hc : takeOk md ops listed i ks cs M = true := by kernel_rfl) (hg : o.guard = none := by rfl) (hd : o.dst = some d := by rfl) (hdn : Nat.blt d n = true := by rfl) (hQ : ∀ c a w, Q (.panic c) (a.put (some d) v) w → Q (.panic c) a w := by exact fun _ _ _ h => nomatch h.1) : wpAnyM P md ops Q S ks cs (fuel + 1) listed a w := M_q i M hT hS hi hc hg hd hdn hQ hy h
end
end Go.Proofs.Ytcolgghllacloaa.Tm
end

section
namespace Go.Proofs.Ytcolgghllacloaa.Tm
open Go.Rf (RowIn strs ints rep nodeT ownL blk Src)
open Go.Proofs.Ytcolgghllacloaa.R (NodeR nodeZero okLen)
open Go.RowKit Go.Proofs.Ytcolgghllacloaa.Q Go.Proofs.YtcolgghllacloaaW.PrintWords Go.Proofs.YtcolgghllacloaaW.PrintLast Go.Proofs.YtcolgghllacloaaW.PrintMore
theorem fT (b j f : Nat) (w : World) (hf : f < 2) : (Instr.fieldAt 30 (.pointer (some ⟨b, j, none⟩)) f).run Try.prog w = .ok (.pointer (some ⟨b, j + f, none⟩)) w := by
 match f, hf with
 | 0, _ => simp [go_sem, Instr.fieldAt]
 | 1, _ => simp [go_sem, Instr.fieldAt]
theorem fN (b j f : Nat) (w : World) (hf : f < 4) : (Instr.fieldAt 72 (.pointer (some ⟨b, j, none⟩)) f).run Try.prog w = .ok (.pointer (some ⟨b, j + f, none⟩)) w := by
 match f, hf with
 | 0, _ => simp [go_sem, Instr.fieldAt]
 | 1, _ => simp [go_sem, Instr.fieldAt]
 | 2, _ => simp [go_sem, Instr.fieldAt]
 | 3, _ => simp [go_sem, Instr.fieldAt]
theorem fU (b j f : Nat) (w : World) (hf : f < 4) : (Instr.fieldAt 109 (.pointer (some ⟨b, j, none⟩)) f).run Try.prog w = .ok (.pointer (some ⟨b, j + f, none⟩)) w := by
 match f, hf with
 | 0, _ => simp [go_sem, Instr.fieldAt]
 | 1, _ => simp [go_sem, Instr.fieldAt]
 | 2, _ => simp [go_sem, Instr.fieldAt]
 | 3, _ => simp [go_sem, Instr.fieldAt]
section
variable {w : World} {v : Value} {a : Addr}
theorem l_int (h : w.cell? a = some v) : (Instr.loadAt 3 (.pointer (some a))).run Try.prog w = .ok v w := by simp [go_sem, Instr.loadAt, h]
theorem l_bool (h : w.cell? a = some v) : (Instr.loadAt 4 (.pointer (some a))).run Try.prog w = .ok v w := by simp [go_sem, Instr.loadAt, h]
theorem l_str (h : w.cell? a = some v) : (Instr.loadAt 9 (.pointer (some a))).run Try.prog w = .ok v w := by simp [go_sem, Instr.loadAt, h]
theorem l_ss (h : w.cell? a = some v) : (Instr.loadAt 62 (.pointer (some a))).run Try.prog w = .ok v w := by simp [go_sem, Instr.loadAt, h]
theorem l_si (h : w.cell? a = some v) : (Instr.loadAt 65 (.pointer (some a))).run Try.prog w = .ok v w := by simp [go_sem, Instr.loadAt, h]
theorem l_sn (h : w.cell? a = some v) : (Instr.loadAt 28 (.pointer (some a))).run Try.prog w = .ok v w := by simp [go_sem, Instr.loadAt, h]
end
section
variable {w : World} {b j : Nat} {v0 v1 v2 v3 : Value}
theorem l_tree (h : w.cell? ⟨b, j, none⟩ = some v0) (h1 : w.cell? ⟨b, j + 1, none⟩ = some v1) : (Instr.loadAt 30 (.pointer (some ⟨b, j, none⟩))).run Try.prog w = .ok (.agg #[v0, v1]) w := by
 simp [go_sem, Instr.loadAt, h, h1]
theorem l_node (h : w.cell? ⟨b, j, none⟩ = some v0) (h1 : w.cell? ⟨b, j + 1, none⟩ = some v1) (h2 : w.cell? ⟨b, j + 2, none⟩ = some v2) (h3 : w.cell? ⟨b, j + 3, none⟩ = some v3) : (Instr.loadAt 72 (.pointer (some ⟨b, j, none⟩))).run Try.prog w = .ok (.agg #[v0, v1, v2, v3]) w := by
 simp [go_sem, Instr.loadAt, h, h1, h2, h3]
theorem l_up (h : w.cell? ⟨b, j, none⟩ = some v0) (h1 : w.cell? ⟨b, j + 1, none⟩ = some v1) (h2 : w.cell? ⟨b, j + 2, none⟩ = some v2) (h3 : w.cell? ⟨b, j + 3, none⟩ = some v3) : (Instr.loadAt 109 (.pointer (some ⟨b, j, none⟩))).run Try.prog w = .ok (.agg #[v0, v1, v2, v3]) w := by
 simp [go_sem, Instr.loadAt, h, h1, h2, h3]
end
theorem i_node {b n c k : Nat} {w : World} (hk : k < n) : (Instr.indexAt 28 (.slice (some ⟨b, 0, none⟩) n c) (.int .i64 (k : Int))).run Try.prog w = .ok (.pointer (some ⟨b, k * 4, none⟩)) w := by
 simp [go_sem, Instr.indexAt, hk]
theorem i_str {b n c k : Nat} {w : World} (hk : k < n) : (Instr.indexAt 62 (.slice (some ⟨b, 0, none⟩) n c) (.int .i64 (k : Int))).run Try.prog w = .ok (.pointer (some ⟨b, k, none⟩)) w := by
 simp [go_sem, Instr.indexAt, hk]
theorem i_int {b n c k : Nat} {w : World} (hk : k < n) : (Instr.indexAt 65 (.slice (some ⟨b, 0, none⟩) n c) (.int .i64 (k : Int))).run Try.prog w = .ok (.pointer (some ⟨b, k, none⟩)) w := by
 simp [go_sem, Instr.indexAt, hk]
theorem i_int0 {b n c : Nat} {w : World} (hk : 0 < n) : (Instr.indexAt 65 (.slice (some ⟨b, 0, none⟩) n c) (.int .i64 0)).run Try.prog w = .ok (.pointer (some ⟨b, 0, none⟩)) w := i_int (k := 0) hk
theorem i_str0 {b n c : Nat} {w : World} (hk : 0 < n) : (Instr.indexAt 62 (.slice (some ⟨b, 0, none⟩) n c) (.int .i64 0)).run Try.prog w = .ok (.pointer (some ⟨b, 0, none⟩)) w := i_str (k := 0) hk
theorem i_str1 {b n c : Nat} {w : World} (hk : 1 < n) : (Instr.indexAt 62 (.slice (some ⟨b, 0, none⟩) n c) (.int .i64 1)).run Try.prog w = .ok (.pointer (some ⟨b, 1, none⟩)) w := i_str (k := 1) hk
theorem a_tree (w : World) : (Instr.alloc 30 true (.tuple #[])).run Try.prog w = .ok (.pointer (some ⟨w.heap.size, 0, none⟩)) (w.alloc (.cells #[.int .i64 0, .slice none 0 0] 30)) := by simp [go_sem, Instr.alloc]
theorem a_node (w : World) : (Instr.alloc 72 true (.tuple #[])).run Try.prog w = .ok (.pointer (some ⟨w.heap.size, 0, none⟩)) (w.alloc (.cells #[.bool false, .slice none 0 0, .slice none 0 0, .slice none 0 0] 72)) := by simp [go_sem, Instr.alloc]
theorem a_up (w : World) : (Instr.alloc 109 true (.tuple #[])).run Try.prog w = .ok (.pointer (some ⟨w.heap.size, 0, none⟩)) (w.alloc (.cells #[.bool false, .string ⟨#[]⟩, .int .i64 0, .bool false] 109)) := by simp [go_sem, Instr.alloc]
theorem b_tree (w : World) (v0 v1 : Value) : (Instr.box 30 (.agg #[v0, v1])).run Try.prog w = .ok (.pointer (some ⟨w.heap.size, 0, none⟩)) (w.alloc (.cells #[v0, v1] 30)) := by simp [go_sem, Instr.box]
section
variable {w : World} {b j : Nat} {t : TypeId} {cs : Array Value} {v v0 v1 v2 v3 : Value}
theorem run_store_at (h : CellsAt w b t cs) (hj : j < cs.size) (hv : v.oneCell' = true) : (store ⟨b, j, none⟩ v).run Try.prog w = .ok () (w.setCell ⟨b, j, none⟩ v) := by
 have h0 := h.cell j
 rw [Array.getElem?_eq_getElem hj] at h0
 rw [run_store Try.prog w _ v _ hv, h0]
 simp [h.frozen j]
theorem s_int (hv : v.oneCell' = true) : (Instr.storeAt 3 (.pointer (some ⟨b, j, none⟩)) v).run Try.prog w = (store ⟨b, j, none⟩ v).run Try.prog w := by cases v <;> (try simp [go_sem, Instr.storeAt]) <;> exact absurd hv Bool.false_ne_true
theorem s_str (hv : v.oneCell' = true) : (Instr.storeAt 9 (.pointer (some ⟨b, j, none⟩)) v).run Try.prog w = (store ⟨b, j, none⟩ v).run Try.prog w := by cases v <;> (try simp [go_sem, Instr.storeAt]) <;> exact absurd hv Bool.false_ne_true
theorem s_tree (h : CellsAt w b t cs) (hj : j + 1 < cs.size) (h0 : v0.oneCell' = true) (h1 : v1.oneCell' = true) : (Instr.storeAt 30 (.pointer (some ⟨b, j, none⟩)) (.agg #[v0, v1])).run Try.prog w = .ok () ((w.setCell ⟨b, j, none⟩ v0).setCell ⟨b, j + 1, none⟩ v1) := by
 have e0 := run_store_at h (j := j) (by omega) h0
 have e1 := run_store_at (h.set j v0) (j := j + 1) (v := v1) (by simpa using hj) h1
 simp [go_sem, Instr.storeAt, e0, e1]
theorem s_node (h : CellsAt w b t cs) (hj : j + 3 < cs.size) (h0 : v0.oneCell' = true) (h1 : v1.oneCell' = true) (h2 : v2.oneCell' = true) (h3 : v3.oneCell' = true) : (Instr.storeAt 72 (.pointer (some ⟨b, j, none⟩)) (.agg #[v0, v1, v2, v3])).run Try.prog w = .ok () ((((w.setCell ⟨b, j, none⟩ v0).setCell ⟨b, j + 1, none⟩ v1).setCell ⟨b, j + 2, none⟩ v2).setCell ⟨b, j + 3, none⟩ v3) := by
 have e0 := run_store_at h (j := j) (by omega) h0
 have e1 := run_store_at (h.set j v0) (j := j + 1) (v := v1) (by simp; omega) h1
 have e2 := run_store_at ((h.set j v0).set (j + 1) v1) (j := j + 2) (v := v2) (by simp; omega) h2
 have e3 := run_store_at (((h.set j v0).set (j + 1) v1).set (j + 2) v2) (j := j + 3) (v := v3) (by simp; omega) h3
 simp [go_sem, Instr.storeAt, e0, e1, e2, e3]
theorem s_up (h : CellsAt w b t cs) (hj : j + 3 < cs.size) (h0 : v0.oneCell' = true) (h1 : v1.oneCell' = true) (h2 : v2.oneCell' = true) (h3 : v3.oneCell' = true) : (Instr.storeAt 109 (.pointer (some ⟨b, j, none⟩)) (.agg #[v0, v1, v2, v3])).run Try.prog w = .ok () ((((w.setCell ⟨b, j, none⟩ v0).setCell ⟨b, j + 1, none⟩ v1).setCell ⟨b, j + 2, none⟩ v2).setCell ⟨b, j + 3, none⟩ v3) := by
 have e0 := run_store_at h (j := j) (by omega) h0
 have e1 := run_store_at (h.set j v0) (j := j + 1) (v := v1) (by simp; omega) h1
 have e2 := run_store_at ((h.set j v0).set (j + 1) v1) (j := j + 2) (v := v2) (by simp; omega) h2
 have e3 := run_store_at (((h.set j v0).set (j + 1) v1).set (j + 2) v2) (j := j + 3) (v := v3) (by simp; omega) h3
 simp [go_sem, Instr.storeAt, e0, e1, e2, e3]
end
end Go.Proofs.Ytcolgghllacloaa.Tm
end
