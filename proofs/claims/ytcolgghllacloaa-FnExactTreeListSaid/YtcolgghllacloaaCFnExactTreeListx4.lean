/- A part of the proof that the law FnExactTreeList answers true for every input: contracts of functions that it reaches, or its plain law. -/
import Derived.Deep.RegionHeld3
import Derived.Deep.LoopGhost
import Derived.OneCell
import Derived.Laws.Cover1
import Derived.Test.YtcolgghllacloaaProg
import Derived.KernelRfl
import Derived.Test.YtcolgghllacloaaCFnExactTreeListx0
import Derived.Test.YtcolgghllacloaaCFnExactTreeListx1
import Derived.Test.YtcolgghllacloaaCFnExactTreeListx2
import Derived.Test.YtcolgghllacloaaCFnExactTreeListx3
namespace Go.Proofs.Ytcolgghllacloaa.Q
end Go.Proofs.Ytcolgghllacloaa.Q
namespace Go.Proofs.Ytcolgghllacloaa.R
end Go.Proofs.Ytcolgghllacloaa.R
namespace Go.Proofs.YtcolgghllacloaaW.PrintLast
end Go.Proofs.YtcolgghllacloaaW.PrintLast
namespace Go.Proofs.YtcolgghllacloaaW.PrintMore
end Go.Proofs.YtcolgghllacloaaW.PrintMore
namespace Go.Proofs.YtcolgghllacloaaW.PrintWords
end Go.Proofs.YtcolgghllacloaaW.PrintWords
section
namespace Go.Proofs.Ytcolgghllacloaa.Q
open Go.RowKit Go.Proofs.Ytcolgghllacloaa.Q Go.Proofs.YtcolgghllacloaaW.PrintWords Go.Proofs.YtcolgghllacloaaW.PrintLast Go.Proofs.YtcolgghllacloaaW.PrintMore
set_option linter.unusedVariables false
set_option linter.unusedSimpArgs false
/-- a block's cells, none frozen -/
def CellsAt (W : World) (B : Nat) (t : TypeId) (cs : Array Value) : Prop := W.heap[B]? = some (.cells cs t (0, 0))
theorem CellsAt.lt {W : World} {B : Nat} {t : TypeId} {cs : Array Value} (h : CellsAt W B t cs) : B < W.heap.size := (Array.getElem?_eq_some_iff.1 h).1
theorem CellsAt.new (W : World) (t : TypeId) (cs : Array Value) : CellsAt (W.alloc (.cells cs t)) W.heap.size t cs := by show (W.heap.push _)[W.heap.size]? = _; simp
theorem CellsAt.below {W W' : World} {B n : Nat} {t : TypeId} {cs : Array Value} (h : CellsAt W B t cs) (hb : Below n W W') (hn : B < n) : CellsAt W' B t cs := (hb.block B hn).trans h
theorem CellsAt.alloc {W : World} {B : Nat} {t : TypeId} {cs : Array Value} (h : CellsAt W B t cs) (o : Obj) : CellsAt (W.alloc o) B t cs := (Below.heap_alloc W o B h.lt).trans h
theorem CellsAt.cell {W : World} {B : Nat} {t : TypeId} {cs : Array Value} (h : CellsAt W B t cs) (j : Nat) : W.cell? ⟨B, j, none⟩ = cs[j]? := by
  simp [World.cell?, show W.heap[B]? = _ from h]
theorem CellsAt.frozen {W : World} {B : Nat} {t : TypeId} {cs : Array Value} (h : CellsAt W B t cs) (j : Nat) : W.frozen? ⟨B, j, none⟩ = false := by simp [World.frozen?, show W.heap[B]? = _ from h]
abbrev Nd := Bool × List ByteArray × List ByteArray × List Int × Unit
def kept (low high k : ByteArray) : Bool := !(Op.bytesLess k.toList low.toList) && (high.toList == (ByteArray.mk #[]).toList || Op.bytesLess k.toList high.toList)
def leafP (low high : ByteArray) (K V : List ByteArray) (i : Nat) : List (ByteArray × ByteArray) :=
  (List.range i).flatMap fun j => if kept low high (K.getD j ByteArray.empty) then [(K.getD j ByteArray.empty, V.getD j ByteArray.empty)] else []
theorem leafP_succ (low high : ByteArray) (K V : List ByteArray) (i : Nat) : leafP low high K V (i + 1) = leafP low high K V i ++ if kept low high (K.getD i ByteArray.empty) then [(K.getD i ByteArray.empty, V.getD i ByteArray.empty)] else [] := by
  unfold leafP
  rw [List.range_succ, List.flatMap_append, List.flatMap_singleton]
def listF (N : List Nd) (low high : ByteArray) : Nat → Int → List (ByteArray × ByteArray)
  | 0, _ => []
  | f + 1, a => match N[a.toNat]? with
    | some n => leafP low high n.2.1 n.2.2.1 n.2.2.1.length ++ n.2.2.2.1.flatMap (listF N low high f)
    | none => []
def fitL (N : List Nd) : Nat → Int → Prop
  | 0, _ => False
  | f + 1, a => ∃ n, N[a.toNat]? = some n ∧ 0 ≤ a ∧ (n.2.2.1.length ≤ n.2.1.length ∧ n.2.2.1.length ≤ 2097152 ∧ n.2.2.2.1.length ≤ 2097152) ∧ ∀ k ∈ n.2.2.2.1, fitL N f k
def flatP : List (ByteArray × ByteArray) → List Value
  | [] => []
  | p :: l => .string p.1 :: .string p.2 :: flatP l
theorem flatP_append : ∀ l m, flatP (l ++ m) = flatP l ++ flatP m
  | [], _ => rfl
  | p :: l, m => by simp [flatP, flatP_append l m]
theorem flatP_length : ∀ l, (flatP l).length = l.length * 2
  | [] => rfl
  | p :: l => by simp [flatP, flatP_length l]; omega
theorem info_pair : (Try.prog.info? 45).map (fun i => (i.zero, i.size, i.bytes)) = some (some (.agg #[.string ⟨#[]⟩, .string ⟨#[]⟩]), 2, 32) := by kernel_rfl
/-- a node in memory -/
def NodeAt (w : World) (b o : Nat) (n : Nd) : Prop :=
  ∃ AK cK AV cV AI cI, w.cell? ⟨b, o, none⟩ = some (.bool n.1) ∧ w.cell? ⟨b, o + 1, none⟩ = some (.slice AK n.2.1.length cK) ∧ w.cell? ⟨b, o + 2, none⟩ = some (.slice AV n.2.2.1.length cV) ∧ w.cell? ⟨b, o + 3, none⟩ = some (.slice AI n.2.2.2.1.length cI) ∧
    (∀ j p, n.2.1[j]? = some p → ∃ a, AK = some a ∧ w.cell? (a.add j) = some (.string p)) ∧ (∀ j p, n.2.2.1[j]? = some p → ∃ a, AV = some a ∧ w.cell? (a.add j) = some (.string p)) ∧ (∀ j p, n.2.2.2.1[j]? = some p → ∃ a, AI = some a ∧ w.cell? (a.add j) = some (.int .i64 p))
abbrev capt (B : Nat) : Array Value := #[.pointer (some ⟨B, 0, none⟩), .pointer (some ⟨B + 1, 0, none⟩), .pointer (some ⟨B + 2, 0, none⟩), .pointer (some ⟨B + 3, 0, none⟩), .pointer (some ⟨B + 4, 0, none⟩)]
structure LAt (w0 W : World) (root : Int) (nb no nc : Nat) (N : List Nd) (low high : ByteArray) (xs : List (ByteArray × ByteArray)) : Prop where
  tree : W.heap[w0.heap.size]? = some (.cells #[.int .i64 root, .slice (some ⟨nb, no, none⟩) N.length nc] 30 (0, 0))
  low : W.heap[w0.heap.size + 1]? = some (.cells #[.string low] 9 (0, 0))
  high : W.heap[w0.heap.size + 2]? = some (.cells #[.string high] 9 (0, 0))
  out : ∃ v, W.heap[w0.heap.size + 3]? = some (.cells #[v] 26 (0, 0)) ∧ W.ownsRow (w0.heap.size + 5) 45 2 v xs.length (flatP xs)
  visit : W.heap[w0.heap.size + 4]? = some (.cells #[.func (.func 43) #[] (capt w0.heap.size)] 74 (0, 0))
  below : Below w0.heap.size w0 W
/-- what the closure leaves alone -/
structure KeptL (B : Nat) (W W' : World) : Prop where
  size : W.heap.size ≤ W'.heap.size
  block : ∀ k cs e fz, W.heap[k]? = some (.cells cs e fz) → k ≠ B + 3 → e ≠ 45 → W'.heap[k]? = some (.cells cs e fz)
theorem KeptL.refl (B : Nat) (W : World) : KeptL B W W := ⟨Nat.le_refl _, fun _ _ _ _ h _ _ => h⟩
theorem KeptL.trans {B : Nat} {W W' W'' : World} (h : KeptL B W W') (h' : KeptL B W' W'') : KeptL B W W'' := ⟨Nat.le_trans h.size h'.size, fun k cs e fz h1 h2 h3 => h'.block k cs e fz (h.block k cs e fz h1 h2 h3) h2 h3⟩
theorem cell_two_new (w : World) (a b : Value) (t : TypeId) : ∀ j u, [a, b][j]? = some u → (w.alloc (.cells #[a, b] t)).cell? ((⟨w.heap.size, 0, none⟩ : Addr).add j) = some u := by
  intro j u hj
  match j, hj with
  | 0, hj => simp at hj; subst hj; simp [Addr.add]
  | 1, hj => simp at hj; subst hj; simp [Addr.add]
  | j + 2, hj => simp at hj
section
variable {w0 W W' : World} {root : Int} {nb no nc : Nat} {N : List Nd} {low high : ByteArray} {xs : List (ByteArray × ByteArray)}
theorem LAt.alloc (h : LAt w0 W root nb no nc N low high xs) (o : Obj) : LAt w0 (W.alloc o) root nb no nc N low high xs := by
  obtain ⟨v, h1, h2⟩ := h.out
  have key : ∀ (k : Nat) x, W.heap[k]? = some x → (W.alloc o).heap[k]? = some x := fun k x hx => by rw [Below.heap_alloc _ _ _ (lt_of_block hx)]; exact hx
  exact ⟨key _ _ h.tree, key _ _ h.low, key _ _ h.high, ⟨v, key _ _ h1, h2.alloc _⟩, key _ _ h.visit, h.below.alloc h.below.size _⟩
theorem LAt.cell (h : LAt w0 W root nb no nc N low high xs) {a : Addr} {v : Value} (hv : w0.cell? a = some v) : W.cell? a = some v :=
  (World.cell?_of_block (h.below.block a.block (World.block_lt_of_cell? w0 a hv))).trans hv
/-- behind the append and the store -/
theorem LAt.push (h : LAt w0 W root nb no nc N low high xs) {p : ByteArray × ByteArray} {v v' : Value} (hv : W.heap[w0.heap.size + 3]? = some (.cells #[v] 26 (0, 0))) (hown : W.ownsRow (w0.heap.size + 5) 45 2 v xs.length (flatP xs))
    {o : Obj} (hg : (W.alloc o).grownBy W' v.ownBlock) (hown' : W'.ownsRow (w0.heap.size + 5) 45 2 v' (xs.length + 1) (flatP xs ++ [.string p.1, .string p.2])) :
    LAt w0 (W'.setCell ⟨w0.heap.size + 3, 0, none⟩ v') root nb no nc N low high (xs ++ [p]) ∧ KeptL w0.heap.size W (W'.setCell ⟨w0.heap.size + 3, 0, none⟩ v') := by
  have hlt := lt_of_block hv
  have hne : ∀ k, k < W.heap.size → (∀ cs fz, W.heap[k]? ≠ some (Obj.cells cs 45 fz)) → v.ownBlock ≠ some k := by
    intro k hk hno e
    rcases hown.2 with ⟨rfl, _⟩ | ⟨g, cap, cur, rfl, hgb, hh, _⟩
    · cases e
    · obtain rfl : g = k := by simpa [Value.ownBlock] using e
      exact hno _ _ hh
  have key : ∀ (k : Nat) cs e fz, W.heap[k]? = some (Obj.cells cs e fz) → e ≠ 45 → W'.heap[k]? = some (Obj.cells cs e fz) := by
    intro k cs e fz hk he
    have hk' := lt_of_block hk
    rw [hg.block k (by simp; omega) (hne k hk' (fun cs' fz' hh => by rw [hk] at hh; cases hh; exact he rfl)).symm, Below.heap_alloc _ _ _ hk']
    exact hk
  have key2 : ∀ (k : Nat) cs e fz, W.heap[k]? = some (Obj.cells cs e fz) → k ≠ w0.heap.size + 3 → e ≠ 45 → (W'.setCell ⟨w0.heap.size + 3, 0, none⟩ v').heap[k]? = some (.cells cs e fz) := by
    intro k cs e fz hk hk3 he
    rw [Below.heap_setCell _ _ _ _ (by simpa using hk3)]
    exact key k cs e fz hk he
  have hv3 : W'.heap[w0.heap.size + 3]? = some (.cells #[v] 26 (0, 0)) := key _ _ _ _ hv (by decide)
  have hb : Below w0.heap.size w0 W' := Below.grown (h.below.alloc h.below.size _) hg (by have := h.below.size; simp; omega) (fun j hj => by have := (hown.lt _ hj).1; omega)
  refine ⟨⟨key2 _ _ _ _ h.tree (by omega) (by decide), key2 _ _ _ _ h.low (by omega) (by decide), key2 _ _ _ _ h.high (by omega) (by decide), ⟨v', one_setCell hv3, ?_⟩, key2 _ _ _ _ h.visit (by omega) (by decide), hb.setCell (by simp) _⟩, ?_, key2⟩
  · rw [flatP_append, List.length_append]
    refine ownsRow_setCell_other hown' ?_ _
    intro e
    rcases hown'.2 with ⟨rfl, _⟩ | ⟨g, cap, cur, rfl, hgb, hh, _⟩
    · cases e
    · obtain rfl : g = w0.heap.size + 3 := by simpa [Value.ownBlock] using e
      omega
  · have := hg.size
    simp at this ⊢
    omega
theorem LAt.kept (h : LAt w0 W root nb no nc N low high xs) {b : Nat} {cs : Array Value} (hc : CellsAt W b 72 cs) (hk : KeptL w0.heap.size W W') (hb : b ≠ w0.heap.size + 3) : CellsAt W' b 72 cs :=
  hk.block _ _ _ _ hc hb (by decide)
end
theorem meas {n j : Nat} (h : j < n) (ew : wrap64 ((j : Int) + 1) = (j : Int) + 1) : n - (intOf (.int .i64 (wrap64 ((j : Int) + 1)))).toNat < n - (intOf (.int .i64 (j : Int))).toNat := by
  rw [ew]
  show n - ((j : Int) + 1).toNat < n - ((j : Int)).toNat
  omega
theorem num_eq {j : Nat} (ew : wrap64 ((j : Int) + 1) = (j : Int) + 1) : Value.int .i64 (wrap64 ((j : Int) + 1)) = .int .i64 ((j + 1 : Nat) : Int) := by rw [ew]; rfl
theorem flat_take {α β : Type} (g : α → List β) {l : List α} {k : Nat} {z : α} (h : l[k]? = some z) : (l.take (k + 1)).flatMap g = (l.take k).flatMap g ++ g z := by
  rw [List.take_add_one, h]
  simp
theorem flat_le {α β : Type} (g : α → List β) (l : List α) (k : Nat) : ((l.take k).flatMap g).length ≤ (l.flatMap g).length := by
  conv => rhs; rw [← List.take_append_drop k l, List.flatMap_append, List.length_append]
  omega
theorem own_slice {w : World} {base : Nat} {e : TypeId} {size : Nat} {v : Value} {n : Nat} {xs : List Value} (h : w.ownsRow base e size v n xs) : ∃ A m c, v = .slice A m c := by
  rcases h.2 with ⟨rfl, _⟩ | ⟨g, cap, cur, rfl, _⟩
  · exact ⟨_, _, _, rfl⟩
  · exact ⟨_, _, _, rfl⟩
theorem leafP_le (low high : ByteArray) (K V : List ByteArray) {i k : Nat} (h : i ≤ k) : (leafP low high K V i).length ≤ (leafP low high K V k).length := by
  induction h with
  | refl => exact Nat.le_refl _
  | step _ ih => rw [leafP_succ, List.length_append]; omega
theorem push_block {w0 W W' : World} {n : Nat} {xs : List Value} {v : Value} (hv : W.heap[w0.heap.size + 3]? = some (.cells #[v] 26 (0, 0))) (hown : W.ownsRow (w0.heap.size + 5) 45 2 v n xs) {o : Obj} (hg : (W.alloc o).grownBy W' v.ownBlock) : W'.heap[w0.heap.size + 3]? = some (.cells #[v] 26 (0, 0)) := by
  have hlt := lt_of_block hv
  rw [hg.block _ (by simp; omega) (fun e => by have := (hown.lt _ e.symm).1; omega), Below.heap_alloc _ _ _ hlt]
  exact hv
theorem push_free {w0 W W' : World} {n : Nat} {xs : List Value} {v : Value} (hv : W.heap[w0.heap.size + 3]? = some (.cells #[v] 26 (0, 0))) (hown : W.ownsRow (w0.heap.size + 5) 45 2 v n xs) {o : Obj} (hg : (W.alloc o).grownBy W' v.ownBlock) : W'.frozen? ⟨w0.heap.size + 3, 0, none⟩ = false := free_of_one (push_block hv hown hg)
theorem push_cell {w0 W W' : World} {n : Nat} {xs : List Value} {v : Value} (hv : W.heap[w0.heap.size + 3]? = some (.cells #[v] 26 (0, 0))) (hown : W.ownsRow (w0.heap.size + 5) 45 2 v n xs) {o : Obj} (hg : (W.alloc o).grownBy W' v.ownBlock) : W'.cell? ⟨w0.heap.size + 3, 0, none⟩ = some v := cell_of_one (push_block hv hown hg)
set_option maxRecDepth 100000 in
set_option maxHeartbeats 4000000 in
theorem visit_any (w0 : World) (root : Int) (nb no nc : Nat) (N : List Nd) (low high : ByteArray) (hN : ∀ (i : Nat) n, N[i]? = some n → NodeAt w0 nb (no + i * 4) n) :
    ∀ (f : Nat) (at' : Int) (W : World) (xs : List (ByteArray × ByteArray)), fitL N f at' → xs.length + (listF N low high f at').length ≤ 1073741824 → LAt w0 W root nb no nc N low high xs →
      Calls Try.prog 43 #[.int .i64 at', .pointer (some ⟨w0.heap.size, 0, none⟩), .pointer (some ⟨w0.heap.size + 1, 0, none⟩), .pointer (some ⟨w0.heap.size + 2, 0, none⟩), .pointer (some ⟨w0.heap.size + 3, 0, none⟩), .pointer (some ⟨w0.heap.size + 4, 0, none⟩)] W fun e W' =>
        e = .returned (.tuple #[]) ∧ LAt w0 W' root nb no nc N low high (xs ++ listF N low high f at') ∧ KeptL w0.heap.size W W' := by
  intro f
  induction f with
  | zero => intro at' W xs h; exact h.elim
  | succ f ih =>
    intro at' W xs hfit hlen hL
    obtain ⟨n, hn, hat, hkv, hkids⟩ := hfit
    obtain ⟨i, rfl⟩ : ∃ i : Nat, at' = (i : Int) := ⟨at'.toNat, by omega⟩
    have hn' : N[i]? = some n := by simpa using hn
    have hlt : i < N.length := (List.getElem?_eq_some_iff.1 hn').1
    obtain ⟨AK, cK, AV, cV, AI, cI, q0, q1, q2, q3, qK, qV, qI⟩ := hN i n hn'
    obtain ⟨i0, hi, hz0, hz1, hz2⟩ := info_parts info_pair
    have IH := Aside0.mk ih
    have QK := Aside0.mk qK
    have QV := Aside0.mk qV
    have QI := Aside0.mk qI
    have HL := Aside0.mk hlen
    have KV := Aside0.mk hkv
    have HK := Aside0.mk hkids
    clear ih qK qV qI hlen hkv hkids hN hn
    have t0 : W.cell? ⟨w0.heap.size, 0, none⟩ = some (.int .i64 root) := CellsAt.cell hL.tree 0
    have t1 : W.cell? ⟨w0.heap.size, 1, none⟩ = some (.slice (some ⟨nb, no, none⟩) N.length nc) := CellsAt.cell hL.tree 1
    have r0 : W.cell? ⟨nb, no + i * 4, none⟩ = some (.bool n.1) := hL.cell q0
    have r1 : W.cell? ⟨nb, no + i * 4 + 1, none⟩ = some (.slice AK n.2.1.length cK) := hL.cell q1
    have r2 : W.cell? ⟨nb, no + i * 4 + 2, none⟩ = some (.slice AV n.2.2.1.length cV) := hL.cell q2
    have r3 : W.cell? ⟨nb, no + i * 4 + 3, none⟩ = some (.slice AI n.2.2.2.1.length cI) := hL.cell q3
    have bi : (i : Int) < (N.length : Int) := by omega
    have b0 : (0 : Int) ≤ (i : Int) := by omega
    go_enter Try.func43, Try.ntmps43
    go_wp2
    have hc0 : CellsAt (W.alloc (.cells #[.bool n.1, .slice AK n.2.1.length cK, .slice AV n.2.2.1.length cV, .slice AI n.2.2.2.1.length cI] 72)) W.heap.size 72 #[.bool n.1, .slice AK n.2.1.length cK, .slice AV n.2.2.1.length cV, .slice AI n.2.2.2.1.length cI] := CellsAt.new W _ _
    have hL0 := hL.alloc (.cells #[.bool n.1, .slice AK n.2.1.length cK, .slice AV n.2.2.1.length cV, .slice AI n.2.2.2.1.length cI] 72)
    have hK0 : KeptL w0.heap.size W (W.alloc (.cells #[.bool n.1, .slice AK n.2.1.length cK, .slice AV n.2.2.1.length cV, .slice AI n.2.2.2.1.length cI] 72)) := ⟨by simp, fun k cs e fz h _ _ => by rw [Below.heap_alloc _ _ _ (lt_of_block h)]; exact h⟩
    have hb5 : w0.heap.size + 4 < W.heap.size := lt_of_block hL.visit
    have hlL : (leafP low high n.2.1 n.2.2.1 n.2.2.1.length).length ≤ (listF N low high (f + 1) (i : Int)).length := by simp [listF, hn']
    have HLL := Aside0.mk hlL
    clear hlL
    go_loopw [21] (fun v Wr => ∃ j : Nat, v = .int .i64 j ∧ Aside0 (j ≤ n.2.2.1.length) ∧ Aside0 (LAt w0 Wr root nb no nc N low high (xs ++ leafP low high n.2.1 n.2.2.1 j) ∧ KeptL w0.heap.size W Wr) ∧ CellsAt Wr W.heap.size 72 #[.bool n.1, .slice AK n.2.1.length cK, .slice AV n.2.2.1.length cV, .slice AI n.2.2.2.1.length cI]) (fun v _ => n.2.2.1.length - (intOf v).toNat)
    case atStart => exact ⟨0, rfl, ⟨Nat.zero_le _⟩, ⟨by simpa [leafP] using hL0, hK0⟩, hc0⟩
    case round =>
      obtain ⟨j, rfl, hj, HI, hcn⟩ := hrel
      rcases Nat.lt_or_ge j n.2.2.1.length with hjlt | hge
      · obtain ⟨y, hy⟩ : ∃ y, n.2.2.1[j]? = some y := ⟨_, List.getElem?_eq_getElem hjlt⟩
        obtain ⟨x, hx⟩ : ∃ x, n.2.1[j]? = some x := ⟨_, List.getElem?_eq_getElem (by have := KV.out; omega)⟩
        obtain ⟨ka, hka, hkc⟩ := QK.out j x hx
        obtain ⟨va, hva, hvc⟩ := QV.out j y hy
        subst hka
        subst hva
        have kc : wr.cell? (ka.add j) = some (.string x) := HI.out.1.cell hkc
        have vc : wr.cell? (va.add j) = some (.string y) := HI.out.1.cell hvc
        have c1 : wr.cell? ⟨W.heap.size, 1, none⟩ = some (.slice (some ka) n.2.1.length cK) := hcn.cell 1
        have l0 : wr.cell? ⟨w0.heap.size + 1, 0, none⟩ = some (.string low) := cell_of_one HI.out.1.low
        have g0 : wr.cell? ⟨w0.heap.size + 2, 0, none⟩ = some (.string high) := cell_of_one HI.out.1.high
        obtain ⟨v, hv, hown⟩ := HI.out.1.out
        obtain ⟨A0, n0, k0, rfl⟩ := own_slice hown
        have v0 : wr.cell? ⟨w0.heap.size + 3, 0, none⟩ = some (.slice A0 n0 k0) := cell_of_one hv
        have vf : wr.frozen? ⟨w0.heap.size + 3, 0, none⟩ = false := free_of_one hv
        have gx : n.2.1.getD j ByteArray.empty = x := by rw [List.getD_eq_getElem?_getD, hx]; rfl
        have gy : n.2.2.1.getD j ByteArray.empty = y := by rw [List.getD_eq_getElem?_getD, hy]; rfl
        have ew : wrap64 ((j : Int) + 1) = (j : Int) + 1 := by have := KV.out; unfold wrap64; omega
        have bj : (j : Int) < (n.2.1.length : Int) := by have := KV.out; omega
        have bv : (j : Int) < (n.2.2.1.length : Int) := by omega
        have c0 : (0 : Int) ≤ (j : Int) := by omega
        have HV := Aside0.mk hv
        have HO := Aside0.mk hown
        clear hv
        have keep1 : kept low high x = true → leafP low high n.2.1 n.2.2.1 (j + 1) = leafP low high n.2.1 n.2.2.1 j ++ [(x, y)] := fun h => by rw [leafP_succ, gx, gy, h]; rfl
        have drop1 : kept low high x = false → leafP low high n.2.1 n.2.2.1 (j + 1) = leafP low high n.2.1 n.2.2.1 j := fun h => by rw [leafP_succ, gx, h]; simp
        have K1 := Aside0.mk keep1
        have D1 := Aside0.mk drop1
        clear keep1 drop1 gx gy hown
        have LN := Aside0.mk (show (xs ++ leafP low high n.2.1 n.2.2.1 j).length + 1 ≤ 2147483648 by
          have h1 := leafP_le low high n.2.1 n.2.2.1 (Nat.le_of_lt hjlt)
          have h2 := HL.out
          have h3 := HLL.out
          rw [List.length_append]
          omega)
        have hwr : w0.heap.size + 5 ≤ wr.heap.size := by have := lt_of_block HI.out.1.visit; omega
        cases e1 : Op.bytesLess x.toList low.toList with
        | true =>
          go_wp2
          refine ⟨⟨j + 1, num_eq ew, ⟨by omega⟩, ⟨by rw [D1.out (by simp [kept, *])]; exact HI.out.1, HI.out.2⟩, hcn⟩, meas hjlt ew⟩
        | false =>
          by_cases e2 : high.toList = []
          · go_wp2_with (at_builtin; refine wpList_append_own _ rfl _ _ 26 rfl (w0.heap.size + 5) 45 i0 (.agg #[.string ⟨#[]⟩, .string ⟨#[]⟩]) 2 32 Try.underlying26 hi hz0 hz1 hz2 rfl (by decide) _ _ _ rfl (HO.out.alloc _) ⟨wr.heap.size, 0, none⟩ 1 1 [.string x, .string y] rfl rfl (cell_two_new _ _ _ _) (fun u hu => by simp at hu; rcases hu with rfl | rfl <;> rfl) (by have := LN.out; unfold maxLen; omega) (by have := LN.out; omega) (by have := hwr; simp; omega) ?_; intro v' w3 hown' hgrow3 hnil3; obtain ⟨A1, n1, k1, rfl⟩ := own_slice hown'; have PP := Aside0.mk (HI.out.1.push (p := (x, y)) HV.out HO.out hgrow3 hown'); have vf3 : w3.frozen? ⟨w0.heap.size + 3, 0, none⟩ = false := push_free HV.out HO.out hgrow3; have vc3 : w3.cell? ⟨w0.heap.size + 3, 0, none⟩ = some (.slice A0 n0 k0) := push_cell HV.out HO.out hgrow3; clear hown' hgrow3 hnil3)
            go_wp2
            refine ⟨⟨j + 1, num_eq ew, ⟨by omega⟩, ⟨by rw [K1.out (by simp [kept, *]), ← List.append_assoc]; exact PP.out.1, HI.out.2.trans PP.out.2⟩, HI.out.1.kept hcn PP.out.2 (by omega)⟩, meas hjlt ew⟩
          · have e4 : (high.toList == ([] : List UInt8)) = false := by simpa using e2
            cases e3 : Op.bytesLess x.toList high.toList with
            | true =>
              go_wp2_with (at_builtin; refine wpList_append_own _ rfl _ _ 26 rfl (w0.heap.size + 5) 45 i0 (.agg #[.string ⟨#[]⟩, .string ⟨#[]⟩]) 2 32 Try.underlying26 hi hz0 hz1 hz2 rfl (by decide) _ _ _ rfl (HO.out.alloc _) ⟨wr.heap.size, 0, none⟩ 1 1 [.string x, .string y] rfl rfl (cell_two_new _ _ _ _) (fun u hu => by simp at hu; rcases hu with rfl | rfl <;> rfl) (by have := LN.out; unfold maxLen; omega) (by have := LN.out; omega) (by have := hwr; simp; omega) ?_; intro v' w3 hown' hgrow3 hnil3; obtain ⟨A1, n1, k1, rfl⟩ := own_slice hown'; have PP := Aside0.mk (HI.out.1.push (p := (x, y)) HV.out HO.out hgrow3 hown'); have vf3 : w3.frozen? ⟨w0.heap.size + 3, 0, none⟩ = false := push_free HV.out HO.out hgrow3; have vc3 : w3.cell? ⟨w0.heap.size + 3, 0, none⟩ = some (.slice A0 n0 k0) := push_cell HV.out HO.out hgrow3; clear hown' hgrow3 hnil3)
              go_wp2
              refine ⟨⟨j + 1, num_eq ew, ⟨by omega⟩, ⟨by rw [K1.out (by simp [kept, *]), ← List.append_assoc]; exact PP.out.1, HI.out.2.trans PP.out.2⟩, HI.out.1.kept hcn PP.out.2 (by omega)⟩, meas hjlt ew⟩
            | false =>
              go_wp2
              refine ⟨⟨j + 1, num_eq ew, ⟨by omega⟩, ⟨by rw [D1.out (by simp [kept, *])]; exact HI.out.1, HI.out.2⟩, hcn⟩, meas hjlt ew⟩
      · obtain rfl : j = n.2.2.1.length := by have := hj.out; omega
        have c3 : wr.cell? ⟨W.heap.size, 3, none⟩ = some (.slice AI n.2.2.2.1.length cI) := hcn.cell 3
        have HF := Aside0.mk (show listF N low high (f + 1) (i : Int) = leafP low high n.2.1 n.2.2.1 n.2.2.1.length ++ n.2.2.2.1.flatMap (listF N low high f) by simp [listF, hn'])
        go_wp2
        go_loopw [53] (fun v Wr => ∃ k : Nat, v = .int .i64 k ∧ Aside0 (k ≤ n.2.2.2.1.length) ∧ Aside0 (LAt w0 Wr root nb no nc N low high (xs ++ leafP low high n.2.1 n.2.2.1 n.2.2.1.length ++ (n.2.2.2.1.take k).flatMap (listF N low high f)) ∧ KeptL w0.heap.size W Wr)) (fun v _ => n.2.2.2.1.length - (intOf v).toNat)
        case atStart => exact ⟨0, rfl, ⟨Nat.zero_le _⟩, ⟨by simpa using HI.out.1, HI.out.2⟩⟩
        case round =>
          obtain ⟨k, rfl, hk, HJ⟩ := hrel
          rcases Nat.lt_or_ge k n.2.2.2.1.length with hklt | hkge
          · obtain ⟨z, hz⟩ : ∃ z, n.2.2.2.1[k]? = some z := ⟨_, List.getElem?_eq_getElem hklt⟩
            obtain ⟨ia, hia, hic⟩ := QI.out k z hz
            subst hia
            have zc : wr.cell? (ia.add k) = some (.int .i64 z) := HJ.out.1.cell hic
            have v4 : wr.cell? ⟨w0.heap.size + 4, 0, none⟩ = some (.func (.func 43) #[] (capt w0.heap.size)) := cell_of_one HJ.out.1.visit
            have ek : wrap64 ((k : Int) + 1) = (k : Int) + 1 := by have := KV.out; unfold wrap64; omega
            have bk : (k : Int) < (n.2.2.2.1.length : Int) := by omega
            have k0 : (0 : Int) ≤ (k : Int) := by omega
            have HT := Aside0.mk (flat_take (listF N low high f) hz)
            have HM := Aside0.mk (show (xs ++ leafP low high n.2.1 n.2.2.1 n.2.2.1.length ++ (n.2.2.2.1.take k).flatMap (listF N low high f)).length + (listF N low high f z).length ≤ 1073741824 by
              have h1 := HL.out
              have h2 := flat_le (listF N low high f) n.2.2.2.1 (k + 1)
              rw [HF.out, List.length_append] at h1
              rw [HT.out, List.length_append] at h2
              rw [List.length_append, List.length_append]
              omega)
            have HZ := Aside0.mk (HK.out z (List.mem_of_getElem? hz))
            clear hz
            go_wp2_with (go_at_call 43; refine (IH.out z _ _ HZ.out HM.out HJ.out.1).mono ?_; rintro e w4 ⟨rfl, hL4, hK4⟩; have HJ4 := Aside0.mk (And.intro hL4 hK4); clear hL4 hK4)
            refine ⟨⟨k + 1, num_eq ek, ⟨by omega⟩, ⟨by rw [HT.out, ← List.append_assoc]; exact HJ4.out.1, HJ.out.2.trans HJ4.out.2⟩⟩, meas hklt ek⟩
          · obtain rfl : k = n.2.2.2.1.length := by have := hk.out; omega
            go_wp2
            go_end0
            refine ⟨rfl, ?_, HJ.out.2⟩
            have := HJ.out.1
            rw [List.take_length] at this
            rw [HF.out, ← List.append_assoc]
            exact this
end Go.Proofs.Ytcolgghllacloaa.Q
end

section
namespace Go.Proofs.Ytcolgghllacloaa.Q
open Go.RowKit Go.Proofs.Ytcolgghllacloaa.Q Go.Proofs.YtcolgghllacloaaW.PrintWords Go.Proofs.YtcolgghllacloaaW.PrintLast Go.Proofs.YtcolgghllacloaaW.PrintMore
set_option linter.unusedVariables false
set_option linter.unusedSimpArgs false
/-- a row that a call has made -/
def OwnP (w : World) (base : Nat) (v : Value) (l : List (ByteArray × ByteArray)) : Prop :=
  (v = .slice none 0 0 ∧ l = []) ∨ ∃ g cap cur, v = .slice (some ⟨g, 0, none⟩) l.length cap ∧ base ≤ g ∧ w.heap[g]? = some (.cells cur 45 (0, 0)) ∧ l.length ≤ cap ∧ cap ≤ maxLen ∧ cap * 2 ≤ cur.size ∧ cur.toList.take (l.length * 2) = flatP l
theorem clip_nil (w : World) : Calls Try.prog 44 #[.slice none 0 0] w fun e w' => e = .returned (.slice none 0 0) ∧ w' = w := by
  go_enter Try.func44, Try.ntmps44
  go_wp2
  go_ret
  exact ⟨rfl, rfl⟩
theorem clip_any (g n c : Nat) (h : n ≤ c) (w : World) : Calls Try.prog 44 #[.slice (some ⟨g, 0, none⟩) n c] w fun e w' => e = .returned (.slice (some ⟨g, 0, none⟩) n n) ∧ w' = w := by
  have h1 : (0 : Int) ≤ (n : Int) ∧ (n : Int) ≤ (c : Int) := by omega
  go_enter Try.func44, Try.ntmps44
  go_wp2
  go_ret
  exact ⟨rfl, rfl⟩
set_option maxRecDepth 100000 in
set_option maxHeartbeats 4000000 in
theorem list_any (w : World) (root : Int) (nb no nc : Nat) (N : List Nd) (low high : ByteArray) (f : Nat) (hN : ∀ (i : Nat) n, N[i]? = some n → NodeAt w nb (no + i * 4) n) (hfit : fitL N f root) (hlen : (listF N low high f root).length ≤ 1073741824) :
    Calls Try.prog 27 #[.agg #[.int .i64 root, .slice (some ⟨nb, no, none⟩) N.length nc], .string low, .string high] w fun e w' =>
      ∃ v, e = .returned v ∧ OwnP w' w.heap.size v (listF N low high f root) ∧ Below w.heap.size w w' := by
  have hmf : ∀ (fn : Fn) (first cap : Array Value) (w : World), (Instr.makeFunc fn first cap).run Try.prog w = .ok (.func fn first cap) w := fun _ _ _ _ => rfl
  have hst : ∀ (a : Addr) (fn : Fn) (x y : Array Value) (w : World), (store a (.func fn x y)).run Try.prog w = stored Try.prog w a (.func fn x y) .plain := fun a fn x y w => run_store Try.prog w a _ _ rfl
  have HN := Aside0.mk hN
  have HF := Aside0.mk hfit
  have HL := Aside0.mk hlen
  clear hN hfit hlen
  go_enter Try.func27, Try.ntmps27
  obtain ⟨W5, hW5⟩ : ∃ W5, W5 = ((((w.alloc (.cells #[.int .i64 root, .slice (some ⟨nb, no, none⟩) N.length nc] 30)).alloc (.cells #[.string low] 9)).alloc (.cells #[.string high] 9)).alloc (.cells #[.slice none 0 0] 26)).alloc (.cells #[.func (.func 43) #[] #[.pointer (some ⟨w.heap.size, 0, none⟩), .pointer (some ⟨w.heap.size + 1, 0, none⟩), .pointer (some ⟨w.heap.size + 1 + 1, 0, none⟩), .pointer (some ⟨w.heap.size + 1 + 1 + 1, 0, none⟩), .pointer (some ⟨w.heap.size + 1 + 1 + 1 + 1, 0, none⟩)]] 74) := ⟨_, rfl⟩
  have k0 : CellsAt W5 w.heap.size 30 #[.int .i64 root, .slice (some ⟨nb, no, none⟩) N.length nc] := by rw [hW5]; exact ((((CellsAt.new w _ _).alloc _).alloc _).alloc _).alloc _
  have k1 : CellsAt W5 (w.heap.size + 1) 9 #[.string low] := by rw [hW5]; have := ((((CellsAt.new (w.alloc (.cells #[.int .i64 root, .slice (some ⟨nb, no, none⟩) N.length nc] 30)) 9 #[.string low]).alloc (.cells #[.string high] 9)).alloc (.cells #[.slice none 0 0] 26)).alloc (.cells #[.func (.func 43) #[] #[.pointer (some ⟨w.heap.size, 0, none⟩), .pointer (some ⟨w.heap.size + 1, 0, none⟩), .pointer (some ⟨w.heap.size + 1 + 1, 0, none⟩), .pointer (some ⟨w.heap.size + 1 + 1 + 1, 0, none⟩), .pointer (some ⟨w.heap.size + 1 + 1 + 1 + 1, 0, none⟩)]] 74)); simpa using this
  have k2 : CellsAt W5 (w.heap.size + 2) 9 #[.string high] := by rw [hW5]; have := (((CellsAt.new ((w.alloc (.cells #[.int .i64 root, .slice (some ⟨nb, no, none⟩) N.length nc] 30)).alloc (.cells #[.string low] 9)) 9 #[.string high]).alloc (.cells #[.slice none 0 0] 26)).alloc (.cells #[.func (.func 43) #[] #[.pointer (some ⟨w.heap.size, 0, none⟩), .pointer (some ⟨w.heap.size + 1, 0, none⟩), .pointer (some ⟨w.heap.size + 1 + 1, 0, none⟩), .pointer (some ⟨w.heap.size + 1 + 1 + 1, 0, none⟩), .pointer (some ⟨w.heap.size + 1 + 1 + 1 + 1, 0, none⟩)]] 74)); simpa using this
  have k3 : CellsAt W5 (w.heap.size + 3) 26 #[.slice none 0 0] := by rw [hW5]; have := ((CellsAt.new (((w.alloc (.cells #[.int .i64 root, .slice (some ⟨nb, no, none⟩) N.length nc] 30)).alloc (.cells #[.string low] 9)).alloc (.cells #[.string high] 9)) 26 #[.slice none 0 0]).alloc (.cells #[.func (.func 43) #[] #[.pointer (some ⟨w.heap.size, 0, none⟩), .pointer (some ⟨w.heap.size + 1, 0, none⟩), .pointer (some ⟨w.heap.size + 1 + 1, 0, none⟩), .pointer (some ⟨w.heap.size + 1 + 1 + 1, 0, none⟩), .pointer (some ⟨w.heap.size + 1 + 1 + 1 + 1, 0, none⟩)]] 74)); simpa using this
  have k4 : CellsAt W5 (w.heap.size + 4) 74 #[.func (.func 43) #[] #[.pointer (some ⟨w.heap.size, 0, none⟩), .pointer (some ⟨w.heap.size + 1, 0, none⟩), .pointer (some ⟨w.heap.size + 1 + 1, 0, none⟩), .pointer (some ⟨w.heap.size + 1 + 1 + 1, 0, none⟩), .pointer (some ⟨w.heap.size + 1 + 1 + 1 + 1, 0, none⟩)]] := by rw [hW5]; have := (CellsAt.new ((((w.alloc (.cells #[.int .i64 root, .slice (some ⟨nb, no, none⟩) N.length nc] 30)).alloc (.cells #[.string low] 9)).alloc (.cells #[.string high] 9)).alloc (.cells #[.slice none 0 0] 26)) 74 #[.func (.func 43) #[] #[.pointer (some ⟨w.heap.size, 0, none⟩), .pointer (some ⟨w.heap.size + 1, 0, none⟩), .pointer (some ⟨w.heap.size + 1 + 1, 0, none⟩), .pointer (some ⟨w.heap.size + 1 + 1 + 1, 0, none⟩), .pointer (some ⟨w.heap.size + 1 + 1 + 1 + 1, 0, none⟩)]]); simpa using this
  have hb : Below w.heap.size w W5 := by rw [hW5]; exact ((((((Below.refl _ w).alloc (Nat.le_refl _) _).alloc (by simp) _).alloc (by simp; omega) _).alloc (by simp; omega) _).alloc (by simp; omega) _)
  have H5 := Aside0.mk (show LAt w W5 root nb no nc N low high [] from ⟨k0, k1, k2, ⟨_, k3, World.ownsRow_nil _ _ _ _⟩, k4, hb⟩)
  rw [hW5] at H5
  clear k0 k1 k2 k3 k4 hb hW5
  go_wp2_with (go_at_call 43; refine (visit_any w root nb no nc N low high HN.out f root _ [] HF.out (by simpa using HL.out) H5.out).mono ?_; rintro e w4 ⟨rfl, hL4, hK4⟩; obtain ⟨v4, hv4, ho4⟩ := hL4.out; obtain ⟨A4, n4, c4, rfl⟩ := own_slice ho4; have hc4 : w4.cell? ⟨w.heap.size + 1 + 1 + 1, 0, none⟩ = some (.slice A4 n4 c4) := cell_of_one hv4; have HB := Aside0.mk hL4.below; have HO := Aside0.mk ho4; clear hK4 hL4 hv4 ho4)
  have hO := HO.out
  rcases hO.2 with ⟨h1, h2⟩ | ⟨g, cap, cur, h1, hg, hh, hnc, hcm, hcs, htk⟩
  · injection h1 with i1 i2 i3
    subst i1 i2 i3
    refine (clip_nil w4).mono ?_
    rintro e w5 ⟨rfl, rfl⟩
    go_wp2
    go_ret
    exact ⟨_, rfl, .inl ⟨rfl, by simpa using h2⟩, HB.out⟩
  · injection h1 with i1 i2 i3
    subst i1 i2 i3
    refine (clip_any g _ _ hnc w4).mono ?_
    rintro e w5 ⟨rfl, rfl⟩
    go_wp2
    go_ret
    simp only [List.nil_append] at hh hnc hcm hcs htk hg ⊢
    exact ⟨_, rfl, .inr ⟨g, _, cur, rfl, by omega, hh, Nat.le_refl _, by omega, by rw [hcs]; exact Nat.mul_le_mul_right 2 hnc, htk⟩, HB.out⟩
end Go.Proofs.Ytcolgghllacloaa.Q
end

section
namespace Go.Proofs.Ytcolgghllacloaa.Q
open Go.RowKit Go.Proofs.Ytcolgghllacloaa.Q Go.Proofs.YtcolgghllacloaaW.PrintWords Go.Proofs.YtcolgghllacloaaW.PrintLast Go.Proofs.YtcolgghllacloaaW.PrintMore
set_option linter.unusedVariables false
set_option linter.unusedSimpArgs false
set_option maxRecDepth 100000 in
set_option maxHeartbeats 4000000 in
theorem treeList_no (w : World) (root : Int) (A : Option Addr) (n c : Nat) (low high : ByteArray)
    (hok : ∀ W, Below w.heap.size w W → Calls Try.prog 18 #[.agg #[.int .i64 root, .slice A n c]] W fun e w' => e = .returned (.bool false) ∧ Below W.heap.size W w') :
    Calls Try.prog 9 #[.agg #[.int .i64 root, .slice A n c], .string low, .string high] w fun e w' => e = .returned (.slice none 0 0) ∧ Below w.heap.size w w' := by
  have HO := Aside0.mk hok
  clear hok
  have hw : Below w.heap.size w (w.alloc (.cells #[.int .i64 root, .slice A n c] 30)) := (Below.refl _ w).alloc (Nat.le_refl _) _
  have HW := Aside0.mk hw
  clear hw
  go_enter Try.func9, Try.ntmps9
  go_wp2_with (go_at_call 18; refine (HO.out _ HW.out).mono ?_; rintro e w2 ⟨rfl, h2⟩; have H2 := Aside0.mk h2; clear h2)
  go_ret
  exact ⟨rfl, HW.out.trans (H2.out.mono HW.out.size)⟩
set_option maxRecDepth 100000 in
set_option maxHeartbeats 4000000 in
theorem treeList_yes (w : World) (root : Int) (A : Option Addr) (n c : Nat) (low high : ByteArray) (l : List (ByteArray × ByteArray))
    (hok : ∀ W, Below w.heap.size w W → Calls Try.prog 18 #[.agg #[.int .i64 root, .slice A n c]] W fun e w' => e = .returned (.bool true) ∧ Below W.heap.size W w')
    (hls : ∀ W, Below w.heap.size w W → Calls Try.prog 27 #[.agg #[.int .i64 root, .slice A n c], .string low, .string high] W fun e w' => ∃ v, e = .returned v ∧ OwnP w' W.heap.size v l ∧ Below W.heap.size W w') :
    Calls Try.prog 9 #[.agg #[.int .i64 root, .slice A n c], .string low, .string high] w fun e w' => ∃ v, e = .returned v ∧ OwnP w' w.heap.size v l ∧ Below w.heap.size w w' := by
  have HO := Aside0.mk hok
  have HL := Aside0.mk hls
  clear hok hls
  have hw := CellsAt.new w 30 #[.int .i64 root, .slice A n c]
  have hb : Below w.heap.size w (w.alloc (.cells #[.int .i64 root, .slice A n c] 30)) := (Below.refl _ w).alloc (Nat.le_refl _) _
  have HB := Aside0.mk hb
  have HW := Aside0.mk hw
  clear hw hb
  go_enter Try.func9, Try.ntmps9
  go_wp2_with (first | (go_at_call 18; refine (HO.out _ HB.out).mono ?_; rintro e w2 ⟨rfl, h2⟩; have c2 := HW.out.below h2 HW.out.lt; have t0 : w2.cell? ⟨w.heap.size, 0, none⟩ = some (.int .i64 root) := c2.cell 0; have t1 : w2.cell? ⟨w.heap.size, 1, none⟩ = some (.slice A n c) := c2.cell 1; have H2 := Aside0.mk (HB.out.trans (h2.mono HB.out.size)); clear h2 c2) | (go_at_call 27; refine (HL.out _ H2.out).mono ?_; rintro e w3 ⟨v, rfl, ho, h3⟩; have H3 := Aside0.mk (And.intro ho h3); clear ho h3))
  go_ret
  refine ⟨_, rfl, ?_, H2.out.trans (H3.out.2.mono H2.out.size)⟩
  rcases H3.out.1 with h | ⟨g, cap, cur, h1, h2, h3⟩
  · exact .inl h
  · exact .inr ⟨g, cap, cur, h1, Nat.le_trans H2.out.size h2, h3⟩
end Go.Proofs.Ytcolgghllacloaa.Q
end

section
/-! Rf: the seat's tables. -/
set_option autoImplicit false
namespace Go.Proofs.Ytcolgghllacloaa.R0
open Go.Rf
noncomputable def tabs : Tabs where
  ty := [(3, ⟨false, [.int .i64], [], 8⟩),
    (5, ⟨false, [.int .u8], [], 1⟩),
    (9, ⟨false, [.str], [], 16⟩),
    (37, ⟨false, [.sl (.int .u8)], [], 24⟩),
    (62, ⟨false, [.sl .str], [], 24⟩),
    (65, ⟨false, [.sl (.int .i64)], [], 24⟩)]
  el := [(37, 5), (62, 9), (65, 3)]
  ifcs := []
  known := [31, 46, 47, 60, 61]
  spec := [(31, ⟨[.c (.v (.int .i64))], [.c (.v .str)]⟩),
    (46, ⟨[.c (.o .str 9 true), .c (.v (.int .i64))], [.c (.v (.int .i64))]⟩),
    (47, ⟨[.c (.o (.int .i64) 3 true), .c (.v (.int .i64))], [.c (.v (.int .i64))]⟩),
    (60, ⟨[.c (.v (.sl .str))], [.c (.o .str 9 true)]⟩),
    (61, ⟨[.c (.v (.sl (.int .i64)))], [.c (.o (.int .i64) 3 true)]⟩)]
  cut := [(31, [(4, [(0, .c (.v (.int .i64))), (3, .c (.v .str))])]),
    (46, [(2, [(0, .c (.o .str 9 true)), (1, .c (.v (.int .i64))), (5, .c (.v (.int .i64)))])]),
    (47, [(2, [(0, .c (.o (.int .i64) 3 true)), (1, .c (.v (.int .i64))), (5, .c (.v (.int .i64)))])]),
    (60, [(3, [(0, .c (.v (.sl .str))), (3, .c (.o .str 9 true)), (4, .c (.v (.int .i64)))])]),
    (61, [(3, [(0, .c (.v (.sl (.int .i64)))), (3, .c (.o (.int .i64) 3 true)), (4, .c (.v (.int .i64)))])])]
  eqs := []
theorem tabs_ok : tabs.ok Try.prog = true := by kernel_rfl
noncomputable def cx : Go.Rf.Cx := tabs.cx Try.prog (fun _ => none) (fun _ => none) (fun _ => none)
theorem good : Go.Rf.Good cx := Go.Rf.Tabs.good tabs_ok
theorem told (k f : Nat) (inp : (cx.spec f).In) (out : (cx.spec f).Out) (h : callF cx k f inp = some out) : Go.Rf.Contract cx f inp out := (Go.Rf.run_ok good (fun f g inp out h => by cases h) k).1 f inp out h
end Go.Proofs.Ytcolgghllacloaa.R0
end

section
/-! Rf: the functions, and what each answers. -/
set_option autoImplicit false
set_option linter.unusedVariables false
namespace Go.Proofs.Ytcolgghllacloaa.R0
open Go.Rf
/-! loop.example/jetton/laws.markText -/
noncomputable def F31 (k : Nat) (a0 : Int) : Option ((ByteArray × Unit) × (Unit × Unit)) := callF cx k 31 (a0, ())
noncomputable def F31c4 (k : Nat) (x0 : Int) (x3 : ByteArray) : Option ((ByteArray × Unit) × (Unit × Unit)) := cutF cx 31 4 Try.f31 k (x0, x3, ())
/-! loop.example/jetton/laws.markStringS -/
noncomputable def F46 (k : Nat) (a0 : List ByteArray) (a1 : Int) : Option ((Int × Unit) × ((List ByteArray) × Unit × Unit)) := callF cx k 46 (a0, a1, ())
noncomputable def F46c2 (k : Nat) (x0 : List ByteArray) (x1 : Int) (x5 : Int) : Option ((Int × Unit) × ((List ByteArray) × Unit × Unit)) := cutF cx 46 2 Try.f46 k (x0, x1, x5, ())
/-! loop.example/jetton/laws.markIntS -/
noncomputable def F47 (k : Nat) (a0 : List Int) (a1 : Int) : Option ((Int × Unit) × ((List Int) × Unit × Unit)) := callF cx k 47 (a0, a1, ())
noncomputable def F47c2 (k : Nat) (x0 : List Int) (x1 : Int) (x5 : Int) : Option ((Int × Unit) × ((List Int) × Unit × Unit)) := cutF cx 47 2 Try.f47 k (x0, x1, x5, ())
/-! loop.example/jetton/laws.toStringS -/
noncomputable def F60 (k : Nat) (a0 : List ByteArray) : Option (((List ByteArray) × Unit) × (Unit × Unit)) := callF cx k 60 (a0, ())
noncomputable def F60c3 (k : Nat) (x0 : List ByteArray) (x3 : List ByteArray) (x4 : Int) : Option (((List ByteArray) × Unit) × (Unit × Unit)) := cutF cx 60 3 Try.f60 k (x0, x3, x4, ())
/-! loop.example/jetton/laws.toIntS -/
noncomputable def F61 (k : Nat) (a0 : List Int) : Option (((List Int) × Unit) × (Unit × Unit)) := callF cx k 61 (a0, ())
noncomputable def F61c3 (k : Nat) (x0 : List Int) (x3 : List Int) (x4 : Int) : Option (((List Int) × Unit) × (Unit × Unit)) := cutF cx 61 3 Try.f61 k (x0, x3, x4, ())
theorem F31_eq (k : Nat) (a0 : Int) : F31 (k + 2) a0 =
    if (decide (a0 ≤ (0 : Int))) = true then some (((⟨#[109, 48]⟩ : ByteArray), ()), ((), ())) else F31c4 k a0 (⟨#[]⟩ : ByteArray) := by kernel_rfl
theorem F31c4_eq (k : Nat) (x0 : Int) (x3 : ByteArray) : F31c4 (k + 1) x0 x3 =
    if (decide (x0 > (0 : Int))) = true then if (Nat.ble ((bytesOf [(IntKind.u8.wrap (IntKind.i64.wrap ((48 : Int) + (x0.tmod (10 : Int)))))]).size + x3.size) 9223372036854775807) = true then F31c4 k (IntKind.i64.wrap (x0.tdiv (10 : Int))) ((bytesOf [(IntKind.u8.wrap (IntKind.i64.wrap ((48 : Int) + (x0.tmod (10 : Int)))))]) ++ x3) else none else if (Nat.ble ((⟨#[109]⟩ : ByteArray).size + x3.size) 9223372036854775807) = true then some ((((⟨#[109]⟩ : ByteArray) ++ x3), ()), ((), ())) else none := by kernel_rfl
theorem F46_eq (k : Nat) (a0 : List ByteArray) (a1 : Int) : F46 (k + 2) a0 a1 =
    F46c2 k a0 a1 (0 : Int) := by kernel_rfl
theorem F46c2_eq (k : Nat) (x0 : List ByteArray) (x1 : Int) (x5 : Int) : F46c2 (k + 1) x0 x1 x5 =
    if (decide (x5 < (x0.length : Int))) = true then (F31 k x1).bind fun r1 => if (decide (0 ≤ x5) && decide (x5 < (x0.length : Int))) = true then (x0[x5.toNat]?).bind fun y2 => F46c2 k (x0.set x5.toNat r1.1.1) (IntKind.i64.wrap (x1 + (1 : Int))) (IntKind.i64.wrap (x5 + (1 : Int))) else none else some ((x1, ()), (x0, (), ())) := by kernel_rfl
theorem F47_eq (k : Nat) (a0 : List Int) (a1 : Int) : F47 (k + 2) a0 a1 =
    F47c2 k a0 a1 (0 : Int) := by kernel_rfl
theorem F47c2_eq (k : Nat) (x0 : List Int) (x1 : Int) (x5 : Int) : F47c2 (k + 1) x0 x1 x5 =
    if (decide (x5 < (x0.length : Int))) = true then if (decide (0 ≤ x5) && decide (x5 < (x0.length : Int))) = true then (x0[x5.toNat]?).bind fun y1 => F47c2 k (x0.set x5.toNat x1) (IntKind.i64.wrap (x1 + (1 : Int))) (IntKind.i64.wrap (x5 + (1 : Int))) else none else some ((x1, ()), (x0, (), ())) := by kernel_rfl
theorem F60_eq (k : Nat) (a0 : List ByteArray) : F60 (k + 2) a0 =
    if (decide (0 ≤ (a0.length : Int)) && decide ((a0.length : Int) ≤ (a0.length : Int)) && decide ((a0.length : Int) ≤ (8796093022208 : Int))) = true then F60c3 k a0 (List.replicate (a0.length : Int).toNat ByteArray.empty) (0 : Int) else none := by kernel_rfl
theorem F60c3_eq (k : Nat) (x0 : List ByteArray) (x3 : List ByteArray) (x4 : Int) : F60c3 (k + 1) x0 x3 x4 =
    if (decide (x4 < (x0.length : Int))) = true then if (decide (0 ≤ x4)) = true then (x0[x4.toNat]?).bind fun y1 => if (decide (0 ≤ x4) && decide (x4 < (x3.length : Int))) = true then (x3[x4.toNat]?).bind fun y2 => F60c3 k x0 (x3.set x4.toNat y1) (IntKind.i64.wrap (x4 + (1 : Int))) else none else none else some ((x3, ()), ((), ())) := by kernel_rfl
theorem F61_eq (k : Nat) (a0 : List Int) : F61 (k + 2) a0 =
    if (decide (0 ≤ (a0.length : Int)) && decide ((a0.length : Int) ≤ (a0.length : Int)) && decide ((a0.length : Int) ≤ (17592186044416 : Int))) = true then F61c3 k a0 (List.replicate (a0.length : Int).toNat (0 : Int)) (0 : Int) else none := by kernel_rfl
theorem F61c3_eq (k : Nat) (x0 : List Int) (x3 : List Int) (x4 : Int) : F61c3 (k + 1) x0 x3 x4 =
    if (decide (x4 < (x0.length : Int))) = true then if (decide (0 ≤ x4)) = true then (x0[x4.toNat]?).bind fun y1 => if (decide (0 ≤ x4) && decide (x4 < (x3.length : Int))) = true then (x3[x4.toNat]?).bind fun y2 => F61c3 k x0 (x3.set x4.toNat y1) (IntKind.i64.wrap (x4 + (1 : Int))) else none else none else some ((x3, ()), ((), ())) := by kernel_rfl
end Go.Proofs.Ytcolgghllacloaa.R0
end

section
/-! Rf, trees: copies, comparisons, bulk. -/
set_option autoImplicit false
namespace Go.Proofs.Ytcolgghllacloaa.R0
open Go.Rf

abbrev NodeT : Type := Bool × List ByteArray × List ByteArray × List Int × Unit
def okLen (n : Nat) : Prop := n ≤ 1048576
def okNode (n : NodeT) : Prop := okLen n.2.1.length ∧ okLen n.2.2.1.length ∧ okLen n.2.2.2.1.length

theorem F60_ev (l : List ByteArray) (h : okLen l.length) : Ev (fun k => F60 k l) ((l, ()), ((), ())) := by
  unfold okLen at h
  refine Ev.step 2 (fun k => F60_eq k l) ?_
  have c : (decide (0 ≤ (l.length : Int)) && decide ((l.length : Int) ≤ (l.length : Int)) && decide ((l.length : Int) ≤ (8796093022208 : Int))) = true := by simp; omega
  simp only [c, if_true]
  have := copy_loop (L := fun k x3 i => F60c3 k l x3 i) (x0 := l) (g := fun _ y => some y) (f := id) (fin := fun x => ((x, ()), ((), ()))) (h := id) (by omega) (fun k x3 i => F60c3_eq k l x3 i) (fun y _ => Ev.now y)
    (List.replicate (l.length : Int).toNat ByteArray.empty) (by simp)
  simpa using this
theorem F61_ev (l : List Int) (h : okLen l.length) : Ev (fun k => F61 k l) ((l, ()), ((), ())) := by
  unfold okLen at h
  refine Ev.step 2 (fun k => F61_eq k l) ?_
  have c : (decide (0 ≤ (l.length : Int)) && decide ((l.length : Int) ≤ (l.length : Int)) && decide ((l.length : Int) ≤ (17592186044416 : Int))) = true := by simp; omega
  simp only [c, if_true]
  have := copy_loop (L := fun k x3 i => F61c3 k l x3 i) (x0 := l) (g := fun _ y => some y) (f := id) (fin := fun x => ((x, ()), ((), ()))) (h := id) (by omega) (fun k x3 i => F61c3_eq k l x3 i) (fun y _ => Ev.now y)
    (List.replicate (l.length : Int).toNat (0 : Int)) (by simp)
  simpa using this
/-- no string and no row longer than can be counted -/
def fitsN (n : NodeT) : Prop := n.2.1.length ≤ 9223372036854775807 ∧ (∀ y, y ∈ n.2.1 → y.size ≤ 9223372036854775807) ∧ n.2.2.1.length ≤ 9223372036854775807 ∧ (∀ y, y ∈ n.2.2.1 → y.size ≤ 9223372036854775807) ∧ n.2.2.2.1.length ≤ 9223372036854775807
end Go.Proofs.Ytcolgghllacloaa.R0
end

section
/-! Rf: marks in rows. -/
set_option autoImplicit false
set_option linter.unusedSimpArgs false
set_option linter.unusedVariables false
namespace Go.Proofs.Ytcolgghllacloaa.R0
open Go.Rf
theorem ble9m {n : Nat} (h : n ≤ 9223372036854775807) : Nat.ble n 9223372036854775807 = true := Nat.ble_eq_true_of_le h
theorem markText_ev (n : Nat) (h : n ≤ 1000000000) : ∃ t : ByteArray, Ev (fun k => F31 k (n : Int)) ((t, ()), ((), ())) := by
  have key : ∀ (d : Nat) (n : Nat) (x : ByteArray), n < 10 ^ d → d ≤ 18 → x.size + d ≤ 100 → ∃ t : ByteArray, Ev (fun k => F31c4 k (n : Int) x) ((t, ()), ((), ())) := by
    intro d
    induction d with
    | zero =>
      intro n x hn _ hx
      obtain rfl : n = 0 := by simpa using hn
      refine ⟨(⟨#[109]⟩ : ByteArray) ++ x, Ev.step 1 (fun k => F31c4_eq k _ _) ?_⟩
      have e : decide (((0 : Nat) : Int) > 0) = false := rfl
      have e1 : (⟨#[109]⟩ : ByteArray).size = 1 := rfl
      simp only [e, Bool.false_eq_true, if_false]
      refine Ev.pos (fun _ => ble9m (by rw [e1]; omega)) (Ev.now _)
    | succ d ih =>
      intro n x hn hd hx
      by_cases h0 : n = 0
      · subst h0
        exact ih 0 x (Nat.pos_of_ne_zero (by simp)) (by omega) (by omega)
      · have c : decide ((n : Int) > 0) = true := decide_eq_true (by omega)
        have w : IntKind.i64.wrap ((n : Int).tdiv 10) = ((n / 10 : Nat) : Int) := by
          rw [Int.tdiv_eq_ediv_of_nonneg (by omega)]
          have : n < 10 ^ 18 := Nat.lt_of_lt_of_le hn (Nat.pow_le_pow_right (by omega) (by omega))
          rw [wrap64 (by omega) (by omega)]
          omega
        have sz : ∀ l : List Int, (bytesOf l).size = l.length := fun l => by unfold bytesOf; simp [ByteArray.size]
        obtain ⟨t, ht⟩ := ih (n / 10) (bytesOf [IntKind.u8.wrap (IntKind.i64.wrap ((48 : Int) + ((n : Int).tmod (10 : Int))))] ++ x) (by rw [Nat.pow_succ] at hn; omega) (by omega) (by rw [ByteArray.size_append, sz]; simp only [List.length_cons, List.length_nil]; omega)
        refine ⟨t, Ev.step 1 (fun k => F31c4_eq k _ _) ?_⟩
        simp only [c, if_true, w]
        refine Ev.pos (fun _ => ble9m (by rw [sz]; simp only [List.length_cons, List.length_nil]; omega)) ht
  by_cases h0 : n = 0
  · subst h0
    refine ⟨⟨#[109, 48]⟩, Ev.step 2 (fun k => F31_eq k _) ?_⟩
    have e : decide (((0 : Nat) : Int) ≤ 0) = true := rfl
    simp only [e, if_true]
    exact Ev.now _
  · obtain ⟨t, ht⟩ := key 10 n ⟨#[]⟩ (by omega) (by omega) (by show 0 + 10 ≤ 100; omega)
    refine ⟨t, Ev.step 2 (fun k => F31_eq k _) ?_⟩
    have c : decide ((n : Int) ≤ 0) = false := decide_eq_false (by omega)
    simp only [c, Bool.false_eq_true, if_false]
    exact ht
noncomputable def mtx (n : Nat) : ByteArray := if h : n ≤ 1000000000 then Classical.choose (markText_ev n h) else ByteArray.empty
theorem mtx_ev {n : Nat} (h : n ≤ 1000000000) : Ev (fun k => F31 k (n : Int)) ((mtx n, ()), ((), ())) := by
  unfold mtx
  rw [dif_pos h]
  exact Classical.choose_spec (markText_ev n h)
theorem markS_ex (l : List ByteArray) (b : Nat) (h : l.length ≤ 1048576) (hb : b ≤ 100000000) : ∃ l', Ev (fun k => F46 k l (b : Int)) ((((b + l.length : Nat) : Int), ()), (l', (), ())) := by
  have key : ∀ (m i : Nat) (x : List ByteArray), i + m = l.length → x.length = l.length → ∃ l', Ev (fun k => F46c2 k x ((b + i : Nat) : Int) (i : Int)) ((((b + l.length : Nat) : Int), ()), (l', (), ())) := by
    intro m
    induction m with
    | zero =>
      intro i x hi hx
      obtain rfl : i = l.length := by omega
      refine ⟨x, Ev.step 1 (fun k => F46c2_eq k _ _ _) ?_⟩
      simp only [lt_false (Nat.le_of_eq hx), Bool.false_eq_true, if_false]
      exact Ev.now _
    | succ m ih =>
      intro i x hi hx
      have hil : i < x.length := by omega
      obtain ⟨y, hy⟩ : ∃ y, x[i]? = some y := ⟨_, List.getElem?_eq_getElem hil⟩
      obtain ⟨l', hl'⟩ := ih (i + 1) (x.set i (mtx (b + i))) (by omega) (by simpa using hx)
      refine ⟨l', Ev.step 1 (fun k => F46c2_eq k _ _ _) ?_⟩
      simp only [lt_true hil, if_true]
      refine Ev.bind (mtx_ev (by omega)) ?_
      simp only [ge0, Bool.and_self, if_true, Int.toNat_natCast, hy, Option.bind_some, wrap_succ (show i < 9223372036854775807 by omega), wrap_succ (show b + i < 9223372036854775807 by omega)]
      rw [show b + (i + 1) = b + i + 1 by omega] at hl'
      exact hl'
  obtain ⟨l', hl'⟩ := key l.length 0 l (by omega) rfl
  exact ⟨l', Ev.step 2 (fun k => F46_eq k _ _) hl'⟩
theorem markI_ex (l : List Int) (b : Nat) (h : l.length ≤ 1048576) (hb : b ≤ 100000000) : ∃ l', Ev (fun k => F47 k l (b : Int)) ((((b + l.length : Nat) : Int), ()), (l', (), ())) := by
  have key : ∀ (m i : Nat) (x : List Int), i + m = l.length → x.length = l.length → ∃ l', Ev (fun k => F47c2 k x ((b + i : Nat) : Int) (i : Int)) ((((b + l.length : Nat) : Int), ()), (l', (), ())) := by
    intro m
    induction m with
    | zero =>
      intro i x hi hx
      obtain rfl : i = l.length := by omega
      refine ⟨x, Ev.step 1 (fun k => F47c2_eq k _ _ _) ?_⟩
      simp only [lt_false (Nat.le_of_eq hx), Bool.false_eq_true, if_false]
      exact Ev.now _
    | succ m ih =>
      intro i x hi hx
      have hil : i < x.length := by omega
      obtain ⟨y, hy⟩ : ∃ y, x[i]? = some y := ⟨_, List.getElem?_eq_getElem hil⟩
      obtain ⟨l', hl'⟩ := ih (i + 1) (x.set i ((b + i : Nat) : Int)) (by omega) (by simpa using hx)
      refine ⟨l', Ev.step 1 (fun k => F47c2_eq k _ _ _) ?_⟩
      simp only [lt_true hil, ge0, Bool.and_self, if_true, Int.toNat_natCast, hy, Option.bind_some, wrap_succ (show i < 9223372036854775807 by omega), wrap_succ (show b + i < 9223372036854775807 by omega)]
      rw [show b + (i + 1) = b + i + 1 by omega] at hl'
      exact hl'
  obtain ⟨l', hl'⟩ := key l.length 0 l (by omega) rfl
  exact ⟨l', Ev.step 2 (fun k => F47_eq k _ _) hl'⟩
end Go.Proofs.Ytcolgghllacloaa.R0
end

section
/-! Asked by hand: copies of rows, fresh. -/
set_option autoImplicit false
namespace Go.Proofs.Ytcolgghllacloaa.R0
open Go.Rf Go.RowKit
theorem tupV_one (v : Value) : tupV [v] = v := rfl
theorem ask_toStr (w : World) (v : Value) (l : List ByteArray) (hl : l.length ≤ 1048576) (hr : rep w (fun b => b < w.heap.size) (.sl .str) l [v]) :
    Calls Try.prog 60 #[v] w fun e w' => ∃ u, e = .returned u ∧ RowIn w' w.heap.size 9 u (strs l) ∧ Below w.heap.size w w' := by
  obtain ⟨k, hk⟩ := (F60_ev l hl).get
  refine (told k 60 (l, ()) ((l, ()), ((), ())) hk w (fun b => b < w.heap.size) [v] [] ⟨[], [], rfl, ⟨hr, rfl⟩, rfl⟩ (by simp) (fun b hb => by cases hb) (fun b hb => hb) ⟨(fun _ _ h => by cases h), (fun _ _ h => by cases h)⟩).mono ?_
  rintro e w' ⟨rvs, Z', rfp, pfp, rfl, hs, _, _, hf, _, _, hk⟩
  match rvs, hs with
  | [u], ⟨f, g, hfg, ⟨hrow, _, hfu⟩, hg⟩ =>
    refine ⟨u, rfl, RowIn.of (e := .str) (f := Value.string) (fun x c h => h) rfl hrow (fun b hb => ?_), hk.os, hk.tape, hk.output, hk.size, fun b hlt => hk.block b hlt ?_⟩
    · have hm : b ∈ rfp ++ pfp := by rw [hfg, hfu, hb]; simp
      rcases (hf b hm).2 with h | h
      · cases h
      · exact h
    · rintro (h | h)
      · cases h
      · omega
theorem ask_toInt (w : World) (v : Value) (l : List Int) (hl : l.length ≤ 1048576) (hr : rep w (fun b => b < w.heap.size) (.sl (.int .i64)) l [v]) :
    Calls Try.prog 61 #[v] w fun e w' => ∃ u, e = .returned u ∧ RowIn w' w.heap.size 3 u (ints l) ∧ Below w.heap.size w w' := by
  obtain ⟨k, hk⟩ := (F61_ev l hl).get
  refine (told k 61 (l, ()) ((l, ()), ((), ())) hk w (fun b => b < w.heap.size) [v] [] ⟨[], [], rfl, ⟨hr, rfl⟩, rfl⟩ (by simp) (fun b hb => by cases hb) (fun b hb => hb) ⟨(fun _ _ h => by cases h), (fun _ _ h => by cases h)⟩).mono ?_
  rintro e w' ⟨rvs, Z', rfp, pfp, rfl, hs, _, _, hf, _, _, hk⟩
  match rvs, hs with
  | [u], ⟨f, g, hfg, ⟨hrow, _, hfu⟩, hg⟩ =>
    refine ⟨u, rfl, RowIn.of (e := .int .i64) (f := Value.int .i64) (fun x c h => h) rfl hrow (fun b hb => ?_), hk.os, hk.tape, hk.output, hk.size, fun b hlt => hk.block b hlt ?_⟩
    · have hm : b ∈ rfp ++ pfp := by rw [hfg, hfu, hb]; simp
      rcases (hf b hm).2 with h | h
      · cases h
      · exact h
    · rintro (h | h)
      · cases h
      · omega
/-- a row is marked: nothing else turns -/
theorem ask_markS (w : World) (B : Nat) (u : Value) (l : List ByteArray) (b : Nat) (hl : l.length ≤ 1048576) (hb : b ≤ 100000000) (hr : RowIn w B 9 u (strs l)) :
    Calls Try.prog 46 #[u, .int .i64 b] w fun e w' => e = .returned (.int .i64 ((b + l.length : Nat) : Int)) ∧ Keep w w' (fun g => blk u = some g ∨ w.heap.size ≤ g) := by
  obtain ⟨l', hev⟩ := markS_ex l b hl hb
  obtain ⟨k, hk⟩ := hev.get
  have hrow := hr.row (Z := fun _ => False) (e := .str) (f := Value.string) (fun _ => rfl) rfl
  refine (told k 46 (l, (b : Int), ()) (((((b + l.length : Nat) : Int), ()), (l', (), ()))) hk w (fun _ => False) [u, .int .i64 b] (blk u).toList ⟨(blk u).toList, [], by simp, ⟨hrow.1, hrow.2, rfl⟩, [], [], rfl, ⟨rfl, rfl⟩, rfl⟩ (by cases blk u <;> simp) (fun g hg => ⟨fun h => h, (hr.blk (by simpa using hg)).2⟩) (fun _ h => h.elim)
    ⟨(fun _ _ h => by cases h), (fun _ _ h => by cases h)⟩).mono ?_
  rintro e w' ⟨rvs, Z', rfp, pfp, rfl, hs, _, _, _, _, _, hk⟩
  match rvs, hs with
  | [v], ⟨f, g, _, ⟨hv, _⟩, _⟩ =>
    obtain rfl : v = .int .i64 ((b + l.length : Nat) : Int) := (List.cons.inj (show [v] = [Value.int .i64 ((b + l.length : Nat) : Int)] from hv)).1
    exact ⟨rfl, hk.os, hk.tape, hk.output, hk.size, fun g h1 h2 => hk.block g h1 (fun h => h2 (h.imp (fun h => by simpa using h) id)), hk.other⟩
theorem ask_markI (w : World) (B : Nat) (u : Value) (l : List Int) (b : Nat) (hl : l.length ≤ 1048576) (hb : b ≤ 100000000) (hr : RowIn w B 3 u (ints l)) :
    Calls Try.prog 47 #[u, .int .i64 b] w fun e w' => e = .returned (.int .i64 ((b + l.length : Nat) : Int)) ∧ Keep w w' (fun g => blk u = some g ∨ w.heap.size ≤ g) := by
  obtain ⟨l', hev⟩ := markI_ex l b hl hb
  obtain ⟨k, hk⟩ := hev.get
  have hrow := hr.row (Z := fun _ => False) (e := .int .i64) (f := Value.int .i64) (fun _ => rfl) rfl
  refine (told k 47 (l, (b : Int), ()) (((((b + l.length : Nat) : Int), ()), (l', (), ()))) hk w (fun _ => False) [u, .int .i64 b] (blk u).toList ⟨(blk u).toList, [], by simp, ⟨hrow.1, hrow.2, rfl⟩, [], [], rfl, ⟨rfl, rfl⟩, rfl⟩ (by cases blk u <;> simp) (fun g hg => ⟨fun h => h, (hr.blk (by simpa using hg)).2⟩) (fun _ h => h.elim)
    ⟨(fun _ _ h => by cases h), (fun _ _ h => by cases h)⟩).mono ?_
  rintro e w' ⟨rvs, Z', rfp, pfp, rfl, hs, _, _, _, _, _, hk⟩
  match rvs, hs with
  | [v], ⟨f, g, _, ⟨hv, _⟩, _⟩ =>
    obtain rfl : v = .int .i64 ((b + l.length : Nat) : Int) := (List.cons.inj (show [v] = [Value.int .i64 ((b + l.length : Nat) : Int)] from hv)).1
    exact ⟨rfl, hk.os, hk.tape, hk.output, hk.size, fun g h1 h2 => hk.block g h1 (fun h => h2 (h.imp (fun h => by simpa using h) id)), hk.other⟩
end Go.Proofs.Ytcolgghllacloaa.R0
end

section
namespace Go.Proofs.Ytcolgghllacloaa.Q
open Go.Rf (RowIn NodeC Nodes strs ints rep)
open Go.RowKit Go.Proofs.Ytcolgghllacloaa.Q Go.Proofs.YtcolgghllacloaaW.PrintWords Go.Proofs.YtcolgghllacloaaW.PrintLast Go.Proofs.YtcolgghllacloaaW.PrintMore
set_option linter.unusedVariables false
set_option linter.unusedSimpArgs false
theorem rowIn_slice {w : World} {B id : Nat} {v : Value} {l : List Value} (h : RowIn w B id v l) : ∃ A n c, v = .slice A n c := by
  rcases h with ⟨rfl, _⟩ | ⟨g, cap, cur, rfl, _⟩
  · exact ⟨_, _, _, rfl⟩
  · exact ⟨_, _, _, rfl⟩
theorem cellsAt_set {W : World} {b : Nat} {t : TypeId} {cs : Array Value} (h : CellsAt W b t cs) (j : Nat) (u : Value) : CellsAt (W.setCell ⟨b, j, none⟩ u) b t (cs.setIfInBounds j u) := by
  have hlt := h.lt
  have h' : W.heap[b] = .cells cs t (0, 0) := by have := h; unfold CellsAt at this; simpa [Array.getElem?_eq_getElem hlt] using this
  show (W.heap.modify b _)[b]? = _
  rw [Array.getElem?_eq_getElem (by simpa using hlt), Array.getElem_modify_self, h']
  rfl
theorem cellsAt_other {W : World} {b b' j : Nat} {t : TypeId} {cs : Array Value} (h : CellsAt W b t cs) (hne : b ≠ b') (u : Value) : CellsAt (W.setCell ⟨b', j, none⟩ u) b t cs := (Below.heap_setCell _ _ _ _ hne).trans h
set_option maxRecDepth 100000 in
set_option maxHeartbeats 4000000 in
theorem toNode_any (w : World) (lf : Bool) (AK AV AI : Option Addr) (cK cV cI : Nat) (K V : List ByteArray) (I : List Int)
    (hK : ∀ W, Below w.heap.size w W → Calls Try.prog 60 #[.slice AK K.length cK] W fun e w' => ∃ u, e = .returned u ∧ RowIn w' W.heap.size 9 u (strs K) ∧ Below W.heap.size W w')
    (hV : ∀ W, Below w.heap.size w W → Calls Try.prog 60 #[.slice AV V.length cV] W fun e w' => ∃ u, e = .returned u ∧ RowIn w' W.heap.size 9 u (strs V) ∧ Below W.heap.size W w')
    (hI : ∀ W, Below w.heap.size w W → Calls Try.prog 61 #[.slice AI I.length cI] W fun e w' => ∃ u, e = .returned u ∧ RowIn w' W.heap.size 3 u (ints I) ∧ Below W.heap.size W w') :
    Calls Try.prog 42 #[.agg #[.bool lf, .slice AK K.length cK, .slice AV V.length cV, .slice AI I.length cI]] w fun e w' =>
      ∃ uK uV uI B1 B2, e = .returned (.agg #[.bool lf, uK, uV, uI]) ∧ w.heap.size ≤ B1 ∧ B1 ≤ B2 ∧ RowIn w' w.heap.size 9 uK (strs K) ∧ RowIn w' B1 9 uV (strs V) ∧ RowIn w' B2 3 uI (ints I) ∧
        (∀ g, Go.Rf.blk uK = some g → g < B1) ∧ (∀ g, Go.Rf.blk uV = some g → g < B2) ∧ B2 ≤ w'.heap.size ∧ Below w.heap.size w w' := by
  have HK := Aside0.mk hK
  have HV := Aside0.mk hV
  have HI := Aside0.mk hI
  clear hK hV hI
  go_enter Try.func42, Try.ntmps42
  go_wp2_with fail
  obtain ⟨W1, hW1⟩ : ∃ W1, W1 = ((w.alloc (.cells #[.bool lf, .slice AK K.length cK, .slice AV V.length cV, .slice AI I.length cI] 67)).alloc (.cells #[.bool false, .slice none 0 0, .slice none 0 0, .slice none 0 0] 72)).alloc (.cells #[.bool lf, .slice none 0 0, .slice none 0 0, .slice none 0 0] 72) := ⟨_, rfl⟩
  have a1 : CellsAt W1 w.heap.size 67 #[.bool lf, .slice AK K.length cK, .slice AV V.length cV, .slice AI I.length cI] := by rw [hW1]; exact ((CellsAt.new w _ _).alloc _).alloc _
  have b1 : CellsAt W1 (w.heap.size + 1) 72 #[.bool false, .slice none 0 0, .slice none 0 0, .slice none 0 0] := by rw [hW1]; have := (CellsAt.new (w.alloc (.cells #[.bool lf, .slice AK K.length cK, .slice AV V.length cV, .slice AI I.length cI] 67)) 72 #[.bool false, .slice none 0 0, .slice none 0 0, .slice none 0 0]).alloc (.cells #[.bool lf, .slice none 0 0, .slice none 0 0, .slice none 0 0] 72); simpa using this
  have c1 : CellsAt W1 (w.heap.size + 1 + 1) 72 #[.bool lf, .slice none 0 0, .slice none 0 0, .slice none 0 0] := by rw [hW1]; have := (CellsAt.new ((w.alloc (.cells #[.bool lf, .slice AK K.length cK, .slice AV V.length cV, .slice AI I.length cI] 67)).alloc (.cells #[.bool false, .slice none 0 0, .slice none 0 0, .slice none 0 0] 72)) 72 #[.bool lf, .slice none 0 0, .slice none 0 0, .slice none 0 0]); simpa using this
  have d1 : Below w.heap.size w W1 := by rw [hW1]; exact (((Below.refl _ w).alloc (Nat.le_refl _) _).alloc (by simp) _).alloc (by simp; omega) _
  have z1 : W1.heap.size = w.heap.size + 3 := by rw [hW1]; simp
  rw [← hW1]
  clear hW1
  refine (HK.out W1 d1).mono ?_
  rintro e W2 ⟨uK, rfl, rK, m2⟩
  obtain ⟨X1, X2, X3, rfl⟩ := rowIn_slice rK
  have a2 := a1.below m2 a1.lt
  have b2 := b1.below m2 b1.lt
  have c2 := c1.below m2 c1.lt
  have d2 := d1.trans (m2.mono d1.size)
  clear a1 b1 c1
  obtain ⟨W3, hW3⟩ : ∃ W3, W3 = W2.setCell ⟨w.heap.size + 1 + 1, 1, none⟩ (.slice X1 X2 X3) := ⟨_, rfl⟩
  have a3 : CellsAt W3 w.heap.size 67 #[.bool lf, .slice AK K.length cK, .slice AV V.length cV, .slice AI I.length cI] := by rw [hW3]; exact cellsAt_other a2 (by omega) _
  have b3 : CellsAt W3 (w.heap.size + 1) 72 #[.bool false, .slice none 0 0, .slice none 0 0, .slice none 0 0] := by rw [hW3]; exact cellsAt_other b2 (by omega) _
  have c3 : CellsAt W3 (w.heap.size + 1 + 1) 72 #[.bool lf, .slice X1 X2 X3, .slice none 0 0, .slice none 0 0] := by rw [hW3]; exact cellsAt_set c2 1 _
  have d3 : Below w.heap.size w W3 := by rw [hW3]; exact d2.setCell (by show w.heap.size ≤ w.heap.size + 1 + 1; omega) _
  have rK3 : RowIn W3 W1.heap.size 9 (.slice X1 X2 X3) (strs K) := by rw [hW3]; exact rK.keep fun g hg => Below.heap_setCell _ _ _ _ (by have := (rK.blk hg).1; simp; omega)
  have z3 : W3.heap.size = W2.heap.size := by rw [hW3]; simp
  have s3 : w.heap.size + 3 ≤ W3.heap.size := by have := m2.size; omega
  have k3 : ∀ g, Go.Rf.blk (.slice X1 X2 X3) = some g → g < W3.heap.size := fun g hg => (rK3.blk hg).2
  have p1 : W2.cell? ⟨w.heap.size + 1 + 1, 1, none⟩ = some (.slice none 0 0) := c2.cell 1
  have p2 : W2.frozen? ⟨w.heap.size + 1 + 1, 1, none⟩ = false := c2.frozen 1
  have p3 : W3.cell? ⟨w.heap.size, 2, none⟩ = some (.slice AV V.length cV) := a3.cell 2
  rw [hW3] at p3
  go_wp2_with fail
  rw [← hW3]
  clear hW3 p1 p2 p3 a2 b2 c2 d2 m2 rK
  refine (HV.out W3 d3).mono ?_
  rintro e W4 ⟨uV, rfl, rV, m4⟩
  obtain ⟨Y1, Y2, Y3, rfl⟩ := rowIn_slice rV
  have a4 := a3.below m4 a3.lt
  have b4 := b3.below m4 b3.lt
  have c4 := c3.below m4 c3.lt
  have d4 := d3.trans (m4.mono d3.size)
  have rK4 := rK3.below m4
  clear a3 b3 c3
  obtain ⟨W5, hW5⟩ : ∃ W5, W5 = W4.setCell ⟨w.heap.size + 1 + 1, 2, none⟩ (.slice Y1 Y2 Y3) := ⟨_, rfl⟩
  have a5 : CellsAt W5 w.heap.size 67 #[.bool lf, .slice AK K.length cK, .slice AV V.length cV, .slice AI I.length cI] := by rw [hW5]; exact cellsAt_other a4 (by omega) _
  have b5 : CellsAt W5 (w.heap.size + 1) 72 #[.bool false, .slice none 0 0, .slice none 0 0, .slice none 0 0] := by rw [hW5]; exact cellsAt_other b4 (by omega) _
  have c5 : CellsAt W5 (w.heap.size + 1 + 1) 72 #[.bool lf, .slice X1 X2 X3, .slice Y1 Y2 Y3, .slice none 0 0] := by rw [hW5]; exact cellsAt_set c4 2 _
  have d5 : Below w.heap.size w W5 := by rw [hW5]; exact d4.setCell (by show w.heap.size ≤ w.heap.size + 1 + 1; omega) _
  have rK5 : RowIn W5 W1.heap.size 9 (.slice X1 X2 X3) (strs K) := by rw [hW5]; exact rK4.keep fun g hg => Below.heap_setCell _ _ _ _ (by have := (rK4.blk hg).1; simp; omega)
  have rV5 : RowIn W5 W3.heap.size 9 (.slice Y1 Y2 Y3) (strs V) := by rw [hW5]; exact rV.keep fun g hg => Below.heap_setCell _ _ _ _ (by have := (rV.blk hg).1; simp; omega)
  have z5 : W5.heap.size = W4.heap.size := by rw [hW5]; simp
  have s5 : W3.heap.size ≤ W5.heap.size := by have := m4.size; omega
  have k5 : ∀ g, Go.Rf.blk (.slice Y1 Y2 Y3) = some g → g < W5.heap.size := fun g hg => (rV5.blk hg).2
  have p1 : W4.cell? ⟨w.heap.size + 1 + 1, 2, none⟩ = some (.slice none 0 0) := c4.cell 2
  have p2 : W4.frozen? ⟨w.heap.size + 1 + 1, 2, none⟩ = false := c4.frozen 2
  have p3 : W5.cell? ⟨w.heap.size, 3, none⟩ = some (.slice AI I.length cI) := a5.cell 3
  rw [hW5] at p3
  go_wp2_with fail
  rw [← hW5]
  clear hW5 p1 p2 p3 a4 b4 c4 d4 rV
  refine (HI.out W5 d5).mono ?_
  rintro e W6 ⟨uI, rfl, rI, m6⟩
  obtain ⟨Z1, Z2, Z3, rfl⟩ := rowIn_slice rI
  have b6 := b5.below m6 b5.lt
  have c6 := c5.below m6 c5.lt
  have d6 := d5.trans (m6.mono d5.size)
  have rK6 := rK5.below m6
  have rV6 := rV5.below m6
  clear a5 b5 c5
  obtain ⟨W7, hW7⟩ : ∃ W7, W7 = W6.setCell ⟨w.heap.size + 1 + 1, 3, none⟩ (.slice Z1 Z2 Z3) := ⟨_, rfl⟩
  have b7 : CellsAt W7 (w.heap.size + 1) 72 #[.bool false, .slice none 0 0, .slice none 0 0, .slice none 0 0] := by rw [hW7]; exact cellsAt_other b6 (by omega) _
  have c7 : CellsAt W7 (w.heap.size + 1 + 1) 72 #[.bool lf, .slice X1 X2 X3, .slice Y1 Y2 Y3, .slice Z1 Z2 Z3] := by rw [hW7]; exact cellsAt_set c6 3 _
  have p1 : W6.cell? ⟨w.heap.size + 1 + 1, 3, none⟩ = some (.slice none 0 0) := c6.cell 3
  have p2 : W6.frozen? ⟨w.heap.size + 1 + 1, 3, none⟩ = false := c6.frozen 3
  have t0 : W7.cell? ⟨w.heap.size + 1 + 1, 0, none⟩ = some (.bool lf) := c7.cell 0
  have t1 : W7.cell? ⟨w.heap.size + 1 + 1, 1, none⟩ = some (.slice X1 X2 X3) := c7.cell 1
  have t2 : W7.cell? ⟨w.heap.size + 1 + 1, 2, none⟩ = some (.slice Y1 Y2 Y3) := c7.cell 2
  have t3 : W7.cell? ⟨w.heap.size + 1 + 1, 3, none⟩ = some (.slice Z1 Z2 Z3) := c7.cell 3
  have q0 : W7.cell? ⟨w.heap.size + 1, 0, none⟩ = some (.bool false) := b7.cell 0
  have q1 : W7.cell? ⟨w.heap.size + 1, 1, none⟩ = some (.slice none 0 0) := b7.cell 1
  have q2 : W7.cell? ⟨w.heap.size + 1, 2, none⟩ = some (.slice none 0 0) := b7.cell 2
  have q3 : W7.cell? ⟨w.heap.size + 1, 3, none⟩ = some (.slice none 0 0) := b7.cell 3
  have f0 : W7.frozen? ⟨w.heap.size + 1, 0, none⟩ = false := b7.frozen 0
  have f1 : W7.frozen? ⟨w.heap.size + 1, 1, none⟩ = false := b7.frozen 1
  have f2 : W7.frozen? ⟨w.heap.size + 1, 2, none⟩ = false := b7.frozen 2
  have f3 : W7.frozen? ⟨w.heap.size + 1, 3, none⟩ = false := b7.frozen 3
  rw [hW7] at t0 t1 t2 t3 q0 q1 q2 q3 f0 f1 f2 f3
  go_wp2_with fail
  have hf : ∀ (g : Nat), w.heap.size + 3 ≤ g → (((((W6.setCell ⟨w.heap.size + 1 + 1, 3, none⟩ (.slice Z1 Z2 Z3)).setCell ⟨w.heap.size + 1, 0, none⟩ (.bool lf)).setCell ⟨w.heap.size + 1, 1, none⟩ (.slice X1 X2 X3)).setCell ⟨w.heap.size + 1, 2, none⟩ (.slice Y1 Y2 Y3)).setCell ⟨w.heap.size + 1, 3, none⟩ (.slice Z1 Z2 Z3)).heap[g]? = W6.heap[g]? := fun g hg => by
    rw [Below.heap_setCell _ _ _ _ (by simp; omega), Below.heap_setCell _ _ _ _ (by simp; omega), Below.heap_setCell _ _ _ _ (by simp; omega), Below.heap_setCell _ _ _ _ (by simp; omega), Below.heap_setCell _ _ _ _ (by simp; omega)]
  have hd : Below w.heap.size w (((((W6.setCell ⟨w.heap.size + 1 + 1, 3, none⟩ (.slice Z1 Z2 Z3)).setCell ⟨w.heap.size + 1, 0, none⟩ (.bool lf)).setCell ⟨w.heap.size + 1, 1, none⟩ (.slice X1 X2 X3)).setCell ⟨w.heap.size + 1, 2, none⟩ (.slice Y1 Y2 Y3)).setCell ⟨w.heap.size + 1, 3, none⟩ (.slice Z1 Z2 Z3)) := ((((d6.setCell (by show w.heap.size ≤ w.heap.size + 1 + 1; omega) _).setCell (by show w.heap.size ≤ w.heap.size + 1; omega) _).setCell (by show w.heap.size ≤ w.heap.size + 1; omega) _).setCell (by show w.heap.size ≤ w.heap.size + 1; omega) _).setCell (by show w.heap.size ≤ w.heap.size + 1; omega) _
  have b9 : CellsAt (((((W6.setCell ⟨w.heap.size + 1 + 1, 3, none⟩ (.slice Z1 Z2 Z3)).setCell ⟨w.heap.size + 1, 0, none⟩ (.bool lf)).setCell ⟨w.heap.size + 1, 1, none⟩ (.slice X1 X2 X3)).setCell ⟨w.heap.size + 1, 2, none⟩ (.slice Y1 Y2 Y3)).setCell ⟨w.heap.size + 1, 3, none⟩ (.slice Z1 Z2 Z3)) (w.heap.size + 1) 72 #[.bool lf, .slice X1 X2 X3, .slice Y1 Y2 Y3, .slice Z1 Z2 Z3] := cellsAt_set (cellsAt_set (cellsAt_set (cellsAt_set (cellsAt_other b6 (by omega) _) 0 _) 1 _) 2 _) 3 _
  refine bodyPost_ret (results_cell_row (P := Try.prog) (show Try.f42.results = #[.cell 2 72] from rfl) _ _ _ _ _ _ _ rfl b9 Try.underlying72 rfl (by kernel_rfl)) rfl ?_
  exact ⟨_, _, _, W3.heap.size, W5.heap.size, rfl, by omega, s5, (rK6.weaken (by omega)).keep (fun g hg => hf g (by have := (rK6.blk hg).1; omega)), rV6.keep (fun g hg => hf g (by have := (rV6.blk hg).1; omega)), rI.keep (fun g hg => hf g (by have := (rI.blk hg).1; omega)), k3, k5, by have := m6.size; simp; omega, hd⟩
/-- a node that is handed over, and that its rows can be copied -/
def NodeArg (w : World) (b o : Nat) (n : Nd) : Prop :=
  ∃ AK cK AV cV AI cI, w.cell? ⟨b, o, none⟩ = some (.bool n.1) ∧ w.cell? ⟨b, o + 1, none⟩ = some (.slice AK n.2.1.length cK) ∧ w.cell? ⟨b, o + 2, none⟩ = some (.slice AV n.2.2.1.length cV) ∧ w.cell? ⟨b, o + 3, none⟩ = some (.slice AI n.2.2.2.1.length cI) ∧
    (∀ W, Below w.heap.size w W → Calls Try.prog 60 #[.slice AK n.2.1.length cK] W fun e w' => ∃ u, e = .returned u ∧ RowIn w' W.heap.size 9 u (strs n.2.1) ∧ Below W.heap.size W w') ∧
    (∀ W, Below w.heap.size w W → Calls Try.prog 60 #[.slice AV n.2.2.1.length cV] W fun e w' => ∃ u, e = .returned u ∧ RowIn w' W.heap.size 9 u (strs n.2.2.1) ∧ Below W.heap.size W w') ∧
    (∀ W, Below w.heap.size w W → Calls Try.prog 61 #[.slice AI n.2.2.2.1.length cI] W fun e w' => ∃ u, e = .returned u ∧ RowIn w' W.heap.size 3 u (ints n.2.2.2.1) ∧ Below W.heap.size W w')
theorem info_node : (Try.prog.info? 72).map (fun i => (i.zero, i.size, i.bytes)) = some (some (.agg #[.bool false, .slice none 0 0, .slice none 0 0, .slice none 0 0]), 4, 80) := by kernel_rfl
theorem cur_four {W : World} {b i m : Nat} {t : TypeId} {cur : Array Value} (hs : cur.size = m * 4) (hi : i < m) (h : CellsAt W b t cur) : W.cell? ⟨b, i * 4, none⟩ = some (cur.getD (i * 4) undef) ∧ W.cell? ⟨b, i * 4 + 1, none⟩ = some (cur.getD (i * 4 + 1) undef) ∧ W.cell? ⟨b, i * 4 + 2, none⟩ = some (cur.getD (i * 4 + 2) undef) ∧ W.cell? ⟨b, i * 4 + 3, none⟩ = some (cur.getD (i * 4 + 3) undef) := by
  have key : ∀ j, j < cur.size → W.cell? ⟨b, j, none⟩ = some (cur.getD j undef) := fun j hj => by rw [h.cell j, Array.getElem?_eq_getElem hj]; simp [Array.getD, hj]
  exact ⟨key _ (by omega), key _ (by omega), key _ (by omega), key _ (by omega)⟩
/-- what stands while the nodes are copied -/
structure TsAt (w W : World) (N : List Nd) (i : Nat) : Prop where
  row : ∃ cur E, CellsAt W w.heap.size 72 cur ∧ cur.size = N.length * 4 ∧ E ≤ W.heap.size ∧ Nodes W 9 3 cur (w.heap.size + 1) E (N.take i)
  below : Below w.heap.size w W
theorem TsAt.step {w W W2 : World} {N : List Nd} {i : Nat} {n : Nd} {cur : Array Value} {E : Nat} (hn : N[i]? = some n) (hb : Below w.heap.size w W) (hc : CellsAt W w.heap.size 72 cur) (hs : cur.size = N.length * 4) (hE : E ≤ W.heap.size) (hN : Nodes W 9 3 cur (w.heap.size + 1) E (N.take i))
    (m2 : Below W.heap.size W W2) {uK uV uI : Value} {B1 B2 : Nat} (l1 : W.heap.size ≤ B1) (l2 : B1 ≤ B2) (l3 : B2 ≤ W2.heap.size) (rK : RowIn W2 W.heap.size 9 uK (strs n.2.1)) (rV : RowIn W2 B1 9 uV (strs n.2.2.1)) (rI : RowIn W2 B2 3 uI (ints n.2.2.2.1))
    (bK : ∀ g, Go.Rf.blk uK = some g → g < B1) (bV : ∀ g, Go.Rf.blk uV = some g → g < B2) :
    TsAt w ((((W2.setCell ⟨w.heap.size, i * 4, none⟩ (.bool n.1)).setCell ⟨w.heap.size, i * 4 + 1, none⟩ uK).setCell ⟨w.heap.size, i * 4 + 2, none⟩ uV).setCell ⟨w.heap.size, i * 4 + 3, none⟩ uI) N (i + 1) := by
  have hi := (List.getElem?_eq_some_iff.1 hn).1
  have hlt := hc.lt
  have h2 := hc.below m2 hlt
  have hset := cellsAt_set (cellsAt_set (cellsAt_set (cellsAt_set h2 (i * 4) (.bool n.1)) (i * 4 + 1) uK) (i * 4 + 2) uV) (i * 4 + 3) uI
  have hf : ∀ (g : Nat), w.heap.size < g → ((((W2.setCell ⟨w.heap.size, i * 4, none⟩ (.bool n.1)).setCell ⟨w.heap.size, i * 4 + 1, none⟩ uK).setCell ⟨w.heap.size, i * 4 + 2, none⟩ uV).setCell ⟨w.heap.size, i * 4 + 3, none⟩ uI).heap[g]? = W2.heap[g]? := fun g hg => by
    rw [Below.heap_setCell _ _ _ _ (by simp; omega), Below.heap_setCell _ _ _ _ (by simp; omega), Below.heap_setCell _ _ _ _ (by simp; omega), Below.heap_setCell _ _ _ _ (by simp; omega)]
  have hB := hN.le
  have hsz := m2.size
  have el : (N.take i).length = i := by rw [List.length_take]; omega
  have hk : ∀ g, w.heap.size + 1 ≤ g → g < W.heap.size → ((((W2.setCell ⟨w.heap.size, i * 4, none⟩ (.bool n.1)).setCell ⟨w.heap.size, i * 4 + 1, none⟩ uK).setCell ⟨w.heap.size, i * 4 + 2, none⟩ uV).setCell ⟨w.heap.size, i * 4 + 3, none⟩ uI).heap[g]? = W.heap[g]? := fun g h1 h3 => (hf g (by omega)).trans (m2.block g h3)
  have hsi : ∀ (c : Array Value) (j k : Nat) (u : Value), (c.setIfInBounds j u)[k]? = if j = k then (if k < c.size then some u else none) else c[k]? := fun c j k u => by
    rw [Array.getElem?_setIfInBounds]
    split
    · rename_i e; subst e; split <;> simp_all
    · rfl
  refine ⟨⟨_, W2.heap.size, hset, by simp [hs], by simp, ?_⟩, ?_⟩
  · rw [List.take_add_one, hn]
    refine Nodes.snoc (E := E) (hN.keep (fun g h1 h3 => hk g h1 (by omega)) (fun j hj => ?_)) (by omega) ?_
    · rw [el] at hj
      simp only [hsi]
      rw [if_neg (by omega), if_neg (by omega), if_neg (by omega), if_neg (by omega)]
    · rw [el]
      refine ⟨uK, uV, uI, B1, B2, ?_, ?_, ?_, ?_, by omega, l2, l3, (rK.weaken hE).keep fun g hg => hf g (by have := (rK.blk hg).1; omega), rV.keep fun g hg => hf g (by have := (rV.blk hg).1; omega), rI.keep fun g hg => hf g (by have := (rI.blk hg).1; omega), bK, bV, fun g hg => (rI.blk hg).2⟩
      · simp only [hsi, Array.size_setIfInBounds]
        rw [if_neg (by omega), if_neg (by omega), if_neg (by omega), if_pos trivial, if_pos (by omega)]
      · simp only [hsi, Array.size_setIfInBounds]
        rw [if_neg (by omega), if_neg (by omega), if_pos trivial, if_pos (by omega)]
      · simp only [hsi, Array.size_setIfInBounds]
        rw [if_neg (by omega), if_pos trivial, if_pos (by omega)]
      · simp only [hsi, Array.size_setIfInBounds]
        rw [if_pos trivial, if_pos (by omega)]
  · have h3 := hb.trans (m2.mono hb.size)
    exact (((h3.setCell (Nat.le_refl _) _).setCell (Nat.le_refl _) _).setCell (Nat.le_refl _) _).setCell (Nat.le_refl _) _
set_option maxRecDepth 100000 in
set_option maxHeartbeats 4000000 in
theorem toNodeS_any (w : World) (A : Option Addr) (c : Nat) (N : List Nd) (hl : N.length ≤ 1048576) (hN : ∀ (i : Nat) n, N[i]? = some n → ∃ b o, A = some ⟨b, o, none⟩ ∧ NodeArg w b (o + i * 4) n) :
    Calls Try.prog 26 #[.slice A N.length c] w fun e w' => e = .returned (.slice (some ⟨w.heap.size, 0, none⟩) N.length N.length) ∧ TsAt w w' N N.length := by
  obtain ⟨i0, hi, hz0, hz1, hz2⟩ := info_parts info_node
  have HN := Aside0.mk hN
  have HL := Aside0.mk hl
  clear hN
  go_enter Try.func26, Try.ntmps26
  go_wp2_with (at_make; refine wpList_make_full _ rfl _ _ 28 rfl w.heap.size 72 i0 (.agg #[.bool false, .slice none 0 0, .slice none 0 0, .slice none 0 0]) 4 Try.underlying28 hi hz0 hz1 _ _ _ _ N.length rfl rfl rfl rfl (by rw [hz2]; have := HL.out; omega) (by have := HL.out; unfold maxLen; omega) (Nat.le_refl _) ?_; intro w1 hown1 hgrow1)
  have T0 : TsAt w w1 N 0 := by
    rcases hown1.2 with ⟨h0, _⟩ | ⟨g, cap, cur, h0, _, hg, _, _, hcs, _⟩
    · cases h0
    · injection h0 with e1 e2 e3
      injection e1 with e1
      injection e1 with e1
      subst e1 e3
      exact ⟨⟨cur, w.heap.size + 1, hg, hcs, lt_of_block hg, by simpa using Nodes.nil w1 _ _ cur _⟩, Below.grown (Below.refl _ w) hgrow1 (Nat.le_refl _) (fun j hj => by cases hj)⟩
  have HT := Aside0.mk T0
  clear T0 hown1 hgrow1
  go_loopw [4] (fun v W => ∃ i : Nat, v = .int .i64 i ∧ Aside0 (i ≤ N.length ∧ TsAt w W N i)) (fun v _ => N.length - (intOf v).toNat)
  case atStart => exact ⟨0, rfl, ⟨Nat.zero_le _, HT.out⟩⟩
  case round =>
    obtain ⟨i, rfl, HI⟩ := hrel
    rcases Nat.lt_or_ge i N.length with hlt | hge
    · obtain ⟨n, hn⟩ : ∃ n, N[i]? = some n := ⟨_, List.getElem?_eq_getElem hlt⟩
      obtain ⟨b, o, hA, AK, cK, AV, cV, AI, cI, q0, q1, q2, q3, k1, k2, k3⟩ := HN.out i n hn
      subst hA
      have hb := HI.out.2.below
      have old : ∀ a v, w.cell? a = some v → wr.cell? a = some v := fun a v hv => (World.cell?_of_block (hb.block a.block (World.block_lt_of_cell? w a hv))).trans hv
      have r0 := old _ _ q0
      have r1 := old _ _ q1
      have r2 := old _ _ q2
      have r3 := old _ _ q3
      obtain ⟨cur, E, hc, hs, hE, hNd⟩ := HI.out.2.row
      have K1 := Aside0.mk k1
      have K2 := Aside0.mk k2
      have K3 := Aside0.mk k3
      have HB := Aside0.mk hb
      have HC := Aside0.mk hc
      have HS := Aside0.mk hs
      have HE := Aside0.mk hE
      have HD := Aside0.mk hNd
      have HNN := Aside0.mk hn
      have ew : wrap64 ((i : Int) + 1) = (i : Int) + 1 := by have := HL.out; unfold wrap64; omega
      have bi : (i : Int) < (N.length : Int) := by omega
      have b0 : (0 : Int) ≤ (i : Int) := by omega
      clear old q0 q1 q2 q3 k1 k2 k3 hb hc hs hE hNd hn
      go_wp2_with (go_at_call 42; refine (toNode_any wr n.1 AK AV AI cK cV cI n.2.1 n.2.2.1 n.2.2.2.1 (fun W hW => K1.out W (HB.out.trans (hW.mono HB.out.size))) (fun W hW => K2.out W (HB.out.trans (hW.mono HB.out.size))) (fun W hW => K3.out W (HB.out.trans (hW.mono HB.out.size)))).mono ?_; rintro e W2 ⟨uK, uV, uI, B1, B2, rfl, l1, l2, rK, rV, rI, bK, bV, l3, m2⟩; obtain ⟨X1, X2, X3, rfl⟩ := rowIn_slice rK; obtain ⟨Y1, Y2, Y3, rfl⟩ := rowIn_slice rV; obtain ⟨Z1, Z2, Z3, rfl⟩ := rowIn_slice rI; have S := Aside0.mk (TsAt.step HNN.out HB.out HC.out HS.out HE.out HD.out m2 l1 l2 l3 rK rV rI bK bV); have c2 := HC.out.below m2 HC.out.lt; obtain ⟨p0, p1, p2, p3⟩ := cur_four HS.out hlt c2; have f0 : W2.frozen? ⟨w.heap.size, i * 4, none⟩ = false := c2.frozen _; have f1 : W2.frozen? ⟨w.heap.size, i * 4 + 1, none⟩ = false := c2.frozen _; have f2 : W2.frozen? ⟨w.heap.size, i * 4 + 2, none⟩ = false := c2.frozen _; have f3 : W2.frozen? ⟨w.heap.size, i * 4 + 3, none⟩ = false := c2.frozen _; clear l1 l2 l3 rK rV rI bK bV m2 c2)
      refine ⟨⟨i + 1, rfl, ⟨hlt, S.out⟩⟩, ?_⟩
      show N.length - ((i : Int) + 1).toNat < N.length - ((i : Int)).toNat
      omega
    · obtain rfl : i = N.length := by have := HI.out.1; omega
      go_wp2
      go_ret
      exact ⟨rfl, HI.out.2⟩
/-- a tree's nodes in memory -/
def TreeAt (w : World) (B g : Nat) (N : List Nd) : Prop := ∃ cur E, B ≤ g ∧ CellsAt w g 72 cur ∧ cur.size = N.length * 4 ∧ E ≤ w.heap.size ∧ Nodes w 9 3 cur (g + 1) E N
theorem TreeAt.keep {w w' : World} {B g : Nat} {N : List Nd} (h : TreeAt w B g N) (hk : ∀ k, g ≤ k → k < w.heap.size → w'.heap[k]? = w.heap[k]?) (hs : w.heap.size ≤ w'.heap.size) : TreeAt w' B g N := by
  obtain ⟨cur, E, h1, h2, h3, h4, h5⟩ := h
  exact ⟨cur, E, h1, (hk g (Nat.le_refl _) h2.lt).trans h2, h3, by omega, h5.keep (fun k k1 k2 => hk k (by omega) (by omega)) (fun _ _ => rfl)⟩
set_option maxRecDepth 100000 in
set_option maxHeartbeats 4000000 in
theorem toTree_any (w : World) (root : Int) (A : Option Addr) (c : Nat) (N : List Nd) (hl : N.length ≤ 1048576) (hN : ∀ W, Below w.heap.size w W → ∀ (i : Nat) n, N[i]? = some n → ∃ b o, A = some ⟨b, o, none⟩ ∧ NodeArg W b (o + i * 4) n) :
    Calls Try.prog 8 #[.agg #[.int .i64 root, .slice A N.length c]] w fun e w' => ∃ g, e = .returned (.agg #[.int .i64 root, .slice (some ⟨g, 0, none⟩) N.length N.length]) ∧ TreeAt w' w.heap.size g N ∧ Below w.heap.size w w' := by
  have HN := Aside0.mk hN
  have HL := Aside0.mk hl
  clear hN
  go_enter Try.func8, Try.ntmps8
  go_wp2_with fail
  obtain ⟨W1, hW1⟩ : ∃ W1, W1 = ((w.alloc (.cells #[.int .i64 root, .slice A N.length c] 24)).alloc (.cells #[.int .i64 0, .slice none 0 0] 30)).alloc (.cells #[.int .i64 root, .slice none 0 0] 30) := ⟨_, rfl⟩
  have b1 : CellsAt W1 (w.heap.size + 1) 30 #[.int .i64 0, .slice none 0 0] := by rw [hW1]; have := (CellsAt.new (w.alloc (.cells #[.int .i64 root, .slice A N.length c] 24)) 30 #[.int .i64 0, .slice none 0 0]).alloc (.cells #[.int .i64 root, .slice none 0 0] 30); simpa using this
  have c1 : CellsAt W1 (w.heap.size + 1 + 1) 30 #[.int .i64 root, .slice none 0 0] := by rw [hW1]; have := (CellsAt.new ((w.alloc (.cells #[.int .i64 root, .slice A N.length c] 24)).alloc (.cells #[.int .i64 0, .slice none 0 0] 30)) 30 #[.int .i64 root, .slice none 0 0]); simpa using this
  have d1 : Below w.heap.size w W1 := by rw [hW1]; exact (((Below.refl _ w).alloc (Nat.le_refl _) _).alloc (by simp) _).alloc (by simp; omega) _
  have z1 : W1.heap.size = w.heap.size + 3 := by rw [hW1]; simp
  rw [← hW1]
  have Z1 := Aside0.mk z1
  clear hW1 z1
  refine (toNodeS_any W1 A c N hl (HN.out W1 d1)).mono ?_
  rintro e W2 ⟨rfl, hT⟩
  have m2 := hT.below
  have b2 := b1.below m2 b1.lt
  have c2 := c1.below m2 c1.lt
  have d2 := d1.trans (m2.mono d1.size)
  obtain ⟨W3, hW3⟩ : ∃ W3, W3 = W2.setCell ⟨w.heap.size + 1 + 1, 1, none⟩ (.slice (some ⟨W1.heap.size, 0, none⟩) N.length N.length) := ⟨_, rfl⟩
  have b3 : CellsAt W3 (w.heap.size + 1) 30 #[.int .i64 0, .slice none 0 0] := by rw [hW3]; exact cellsAt_other b2 (by omega) _
  have c3 : CellsAt W3 (w.heap.size + 1 + 1) 30 #[.int .i64 root, .slice (some ⟨W1.heap.size, 0, none⟩) N.length N.length] := by rw [hW3]; exact cellsAt_set c2 1 _
  have p1 : W2.cell? ⟨w.heap.size + 1 + 1, 1, none⟩ = some (.slice none 0 0) := c2.cell 1
  have p2 : W2.frozen? ⟨w.heap.size + 1 + 1, 1, none⟩ = false := c2.frozen 1
  have t0 : W3.cell? ⟨w.heap.size + 1 + 1, 0, none⟩ = some (.int .i64 root) := c3.cell 0
  have t1 : W3.cell? ⟨w.heap.size + 1 + 1, 1, none⟩ = some (.slice (some ⟨W1.heap.size, 0, none⟩) N.length N.length) := c3.cell 1
  have q0 : W3.cell? ⟨w.heap.size + 1, 0, none⟩ = some (.int .i64 0) := b3.cell 0
  have q1 : W3.cell? ⟨w.heap.size + 1, 1, none⟩ = some (.slice none 0 0) := b3.cell 1
  have f0 : W3.frozen? ⟨w.heap.size + 1, 0, none⟩ = false := b3.frozen 0
  have f1 : W3.frozen? ⟨w.heap.size + 1, 1, none⟩ = false := b3.frozen 1
  have HTT := Aside0.mk hT
  clear hT
  rw [hW3] at t0 t1 q0 q1 f0 f1
  go_wp2_with fail
  have hk : ∀ (k : Nat), W1.heap.size ≤ k → (((W2.setCell ⟨w.heap.size + 1 + 1, 1, none⟩ (.slice (some ⟨W1.heap.size, 0, none⟩) N.length N.length)).setCell ⟨w.heap.size + 1, 0, none⟩ (.int .i64 root)).setCell ⟨w.heap.size + 1, 1, none⟩ (.slice (some ⟨W1.heap.size, 0, none⟩) N.length N.length)).heap[k]? = W2.heap[k]? := fun k hk => by
    have := Z1.out
    rw [Below.heap_setCell _ _ _ _ (by simp; omega), Below.heap_setCell _ _ _ _ (by simp; omega), Below.heap_setCell _ _ _ _ (by simp; omega)]
  have hd : Below w.heap.size w (((W2.setCell ⟨w.heap.size + 1 + 1, 1, none⟩ (.slice (some ⟨W1.heap.size, 0, none⟩) N.length N.length)).setCell ⟨w.heap.size + 1, 0, none⟩ (.int .i64 root)).setCell ⟨w.heap.size + 1, 1, none⟩ (.slice (some ⟨W1.heap.size, 0, none⟩) N.length N.length)) :=
    ((d2.setCell (by show w.heap.size ≤ w.heap.size + 1 + 1; omega) _).setCell (by show w.heap.size ≤ w.heap.size + 1; omega) _).setCell (by show w.heap.size ≤ w.heap.size + 1; omega) _
  have b9 : CellsAt (((W2.setCell ⟨w.heap.size + 1 + 1, 1, none⟩ (.slice (some ⟨W1.heap.size, 0, none⟩) N.length N.length)).setCell ⟨w.heap.size + 1, 0, none⟩ (.int .i64 root)).setCell ⟨w.heap.size + 1, 1, none⟩ (.slice (some ⟨W1.heap.size, 0, none⟩) N.length N.length)) (w.heap.size + 1) 30 #[.int .i64 root, .slice (some ⟨W1.heap.size, 0, none⟩) N.length N.length] := cellsAt_set (cellsAt_set (cellsAt_other b2 (by omega) _) 0 _) 1 _
  have hT2 : TreeAt W2 w.heap.size W1.heap.size N := by
    obtain ⟨cur, E, h2, h3, h4, h5⟩ := HTT.out.row
    exact ⟨cur, E, by have := Z1.out; omega, h2, h3, h4, by rw [List.take_length] at h5; exact h5⟩
  refine bodyPost_ret (results_cell_row (P := Try.prog) (show Try.f8.results = #[.cell 2 30] from rfl) _ _ _ _ _ _ _ rfl b9 Try.underlying30 rfl (by kernel_rfl)) rfl ?_
  exact ⟨W1.heap.size, rfl, hT2.keep (fun k h1 h2 => hk k h1) (by simp), hd⟩
end Go.Proofs.Ytcolgghllacloaa.Q
end

section
namespace Go.Proofs.Ytcolgghllacloaa.Q
open Go.Rf (RowIn NodeC Nodes strs ints rep nodeT)
open Go.RowKit Go.Proofs.Ytcolgghllacloaa.Q Go.Proofs.YtcolgghllacloaaW.PrintWords Go.Proofs.YtcolgghllacloaaW.PrintLast Go.Proofs.YtcolgghllacloaaW.PrintMore
set_option linter.unusedVariables false
set_option linter.unusedSimpArgs false
theorem rep_up {w W : World} {Z : Nat → Prop} (hZ : ∀ b, Z b → b < w.heap.size) (hb : Below w.heap.size w W) {t : Go.Rf.T} {x : t.D} {cs : List Value} (h : rep w Z t x cs) : rep W (fun b => b < W.heap.size) t x cs :=
  Go.Rf.rep.ext (fun b hz => hb.block b (hZ b hz)) (fun b hz => Nat.lt_of_lt_of_le (hZ b hz) hb.size) h
theorem add_at (b o j : Nat) : (⟨b, o, none⟩ : Addr).add j = ⟨b, o + j, none⟩ := by unfold Addr.add; split <;> simp_all
theorem nodeArg_of {w : World} {Z : Nat → Prop} (hZ : ∀ b, Z b → b < w.heap.size) {N : List Nd} {v : Value} (h : rep w Z (.sl nodeT) N [v]) (hl : ∀ (i : Nat) (n : Nd), N[i]? = some n → n.2.1.length ≤ 1048576 ∧ n.2.2.1.length ≤ 1048576 ∧ n.2.2.2.1.length ≤ 1048576) :
    ∃ A c, v = .slice A N.length c ∧ ∀ W, Below w.heap.size w W → ∀ (i : Nat) n, N[i]? = some n → ∃ b o, A = some ⟨b, o, none⟩ ∧ NodeArg W b (o + i * 4) n := by
  obtain ⟨A, c, vs, hv, _, hr, hcell⟩ := h
  refine ⟨A, c, (List.cons.inj hv).1, fun W hW i n hn => ?_⟩
  obtain ⟨cs, hrn, hg⟩ := Go.Rf.reps.get (n := 4) (fun x c h => Go.Rf.rep.length h) hr i n hn
  obtain ⟨c0, d0, rfl, h0, c1, d1, rfl, h1, c2, d2, rfl, h2, c3, d3, rfl, h3, h4⟩ := hrn
  obtain rfl : c0 = [.bool n.1] := h0
  obtain ⟨AK, kK, vK, rfl, hK⟩ := id h1
  obtain ⟨AV, kV, vV, rfl, hV⟩ := id h2
  obtain ⟨AI, kI, vI, rfl, hI⟩ := id h3
  obtain rfl : d3 = [] := h4
  obtain ⟨a, ha, hs, hz, hc0⟩ := hcell _ _ (hg 0 _ rfl)
  obtain ⟨b, o, s⟩ := a
  obtain rfl : s = none := hs
  have cell : ∀ j u, ([Value.bool n.1] ++ ([Value.slice AK n.2.1.length kK] ++ ([Value.slice AV n.2.2.1.length kV] ++ ([Value.slice AI n.2.2.2.1.length kI] ++ []))))[j]? = some u → W.cell? ⟨b, o + i * 4 + j, none⟩ = some u := fun j u hu => by
    obtain ⟨a, ha', _, _, hc⟩ := hcell _ _ (hg j u hu)
    rw [ha] at ha'
    obtain rfl := Option.some.inj ha'
    rw [add_at] at hc
    rw [show o + i * 4 + j = o + (i * 4 + j) by omega]
    exact (World.cell?_of_block (hW.block b (hZ b hz))).trans hc
  obtain ⟨l1, l2, l3⟩ := hl i n hn
  exact ⟨b, o, ha, AK, kK, AV, kV, AI, kI, cell 0 _ rfl, cell 1 _ rfl, cell 2 _ rfl, cell 3 _ rfl, fun W' hW' => R0.ask_toStr W' _ _ l1 (rep_up hZ (hW.trans (hW'.mono hW.size)) h1), fun W' hW' => R0.ask_toStr W' _ _ l2 (rep_up hZ (hW.trans (hW'.mono hW.size)) h2), fun W' hW' => R0.ask_toInt W' _ _ l3 (rep_up hZ (hW.trans (hW'.mono hW.size)) h3)⟩
end Go.Proofs.Ytcolgghllacloaa.Q
end

section
namespace Go.Proofs.Ytcolgghllacloaa.Q
open Go.Rf (RowIn NodeC Nodes strs ints rep)
open Go.RowKit Go.Proofs.Ytcolgghllacloaa.Q Go.Proofs.YtcolgghllacloaaW.PrintWords Go.Proofs.YtcolgghllacloaaW.PrintLast Go.Proofs.YtcolgghllacloaaW.PrintMore
set_option linter.unusedVariables false
set_option linter.unusedSimpArgs false
def szN (N : List Nd) : Nat := (N.map fun n => 1 + n.2.1.length + n.2.2.1.length + n.2.2.2.1.length).sum
theorem szN_take {N : List Nd} {i : Nat} {n : Nd} (h : N[i]? = some n) : szN (N.take (i + 1)) = szN (N.take i) + (1 + n.2.1.length + n.2.2.1.length + n.2.2.2.1.length) := by
  unfold szN
  rw [List.take_add_one, h]
  simp
theorem szN_le (N : List Nd) (i : Nat) : szN (N.take i) ≤ szN N := by
  unfold szN
  conv => rhs; rw [← List.take_append_drop i N, List.map_append, List.sum_append]
  omega
/-- what stands while the nodes are marked: cells from o on and blocks from lo on are as they were -/
structure MkAt (w W : World) (g : Nat) (cur : Array Value) (o lo : Nat) : Prop where
  row : ∃ c', CellsAt W g 72 c' ∧ c'.size = cur.size ∧ ∀ j, o ≤ j → c'[j]? = cur[j]?
  high : ∀ x, lo ≤ x → x < w.heap.size → W.heap[x]? = w.heap[x]?
  low : ∀ x, x < g → W.heap[x]? = w.heap[x]?
  os : W.os = w.os
  tape : W.tape = w.tape
  output : W.output = w.output
  size : w.heap.size ≤ W.heap.size
section
variable {w W W' : World} {g o lo : Nat} {cur : Array Value}
theorem MkAt.store (h : MkAt w W g cur o lo) {j o' : Nat} (hj : j < o') (ho : o ≤ o') (hg : g < lo) (u : Value) : MkAt w (W.setCell ⟨g, j, none⟩ u) g cur o' lo := by
  obtain ⟨c', h1, h2, h3⟩ := h.row
  refine ⟨⟨_, cellsAt_set h1 j u, by simpa using h2, fun k hk => ?_⟩, fun x h4 h5 => (Below.heap_setCell _ _ _ _ (by simp; omega)).trans (h.high x h4 h5), fun x h4 => (Below.heap_setCell _ _ _ _ (by simp; omega)).trans (h.low x h4), h.os, h.tape, h.output, by simpa using h.size⟩
  rw [Array.getElem?_setIfInBounds_ne (by omega)]
  exact h3 k (by omega)
theorem MkAt.keep (h : MkAt w W g cur o lo) {u : Value} (k : Go.Rf.Keep W W' (fun x => Go.Rf.blk u = some x ∨ W.heap.size ≤ x)) {lo' : Nat} (hu : ∀ x, Go.Rf.blk u = some x → g < x ∧ x < lo') (hl : lo ≤ lo') : MkAt w W' g cur o lo' := by
  obtain ⟨c', h1, h2, h3⟩ := h.row
  have hs := h.size
  have hlt := h1.lt
  refine ⟨⟨c', (k.block g hlt (fun e => e.elim (fun e => by have := (hu g e).1; omega) (fun e => by omega))).trans h1, h2, h3⟩, fun x h4 h5 => (k.block x (by omega) (fun e => e.elim (fun e => by have := (hu x e).2; omega) (fun e => by omega))).trans (h.high x (by omega) h5),
    fun x h4 => (k.block x (by omega) (fun e => e.elim (fun e => by have := (hu x e).1; omega) (fun e => by omega))).trans (h.low x h4), k.os.trans h.os, k.tape.trans h.tape, k.output.trans h.output, Nat.le_trans hs k.size⟩
theorem MkAt.cell (h : MkAt w W g cur o lo) {j : Nat} (hj : o ≤ j) {v : Value} (hv : cur[j]? = some v) : W.cell? ⟨g, j, none⟩ = some v := by
  obtain ⟨c', h1, h2, h3⟩ := h.row
  rw [h1.cell, h3 j hj]
  exact hv
end
set_option maxRecDepth 100000 in
set_option maxHeartbeats 4000000 in
theorem markNodeS_any (w : World) (g c k0 : Nat) (cur : Array Value) (b : Nat → Nat) (N : List Nd) (hs : cur.size = N.length * 4) (hg : g < b 0) (hb : ∀ i, i < N.length → b i ≤ b (i + 1)) (hE : b N.length ≤ w.heap.size) (hc : CellsAt w g 72 cur) (hl : N.length ≤ 1048576)
    (hN : ∀ i n, N[i]? = some n → NodeC w 9 3 cur (i * 4) (b i) (b (i + 1)) n) (hz : k0 + szN N ≤ 100000000) (hlen : ∀ (i : Nat) (n : Nd), N[i]? = some n → n.2.1.length ≤ 1048576 ∧ n.2.2.1.length ≤ 1048576 ∧ n.2.2.2.1.length ≤ 1048576) :
    Calls Try.prog 30 #[.slice (some ⟨g, 0, none⟩) N.length c, .int .i64 k0] w fun e w' => e = .returned (.int .i64 ((k0 + szN N : Nat) : Int)) ∧ MkAt w w' g cur (N.length * 4) (b N.length) := by
  have HN := Aside0.mk hN
  have HL := Aside0.mk hl
  have HS := Aside0.mk hs
  have HG := Aside0.mk hg
  have HB := Aside0.mk hb
  have HE := Aside0.mk hE
  have HZ := Aside0.mk hz
  have HQ := Aside0.mk hlen
  have H0 := Aside0.mk (show MkAt w w g cur (0 * 4) (b 0) from ⟨⟨cur, hc, rfl, fun _ _ => rfl⟩, fun _ _ _ => rfl, fun _ _ => rfl, rfl, rfl, rfl, Nat.le_refl _⟩)
  clear hN hl hs hg hb hE hc hz hlen
  go_enter Try.func30, Try.ntmps30
  go_wp2
  go_loopw [1, 5] (fun kv iv W => ∃ i : Nat, iv = .int .i64 i ∧ kv = .int .i64 ((k0 + szN (N.take i) : Nat) : Int) ∧ Aside0 (i ≤ N.length ∧ MkAt w W g cur (i * 4) (b i))) (fun _ iv _ => N.length - (intOf iv).toNat)
  case atStart => exact ⟨0, rfl, rfl, ⟨Nat.zero_le _, H0.out⟩⟩
  case round =>
    obtain ⟨i, rfl, rfl, HI⟩ := hrel
    rcases Nat.lt_or_ge i N.length with hlt | hge
    · obtain ⟨n, hn⟩ : ∃ n, N[i]? = some n := ⟨_, List.getElem?_eq_getElem hlt⟩
      obtain ⟨uK, uV, uI, B1, B2, e0, e1, e2, e3, l1, l2, l3, rK, rV, rI, bK, bV, bI⟩ := HN.out i n hn
      obtain ⟨X1, X2, X3, rfl⟩ := rowIn_slice rK
      obtain ⟨Y1, Y2, Y3, rfl⟩ := rowIn_slice rV
      obtain ⟨Z1, Z2, Z3, rfl⟩ := rowIn_slice rI
      have p0 : wr.cell? ⟨g, i * 4, none⟩ = some (.bool n.1) := HI.out.2.cell (Nat.le_refl _) e0
      have p1 : wr.cell? ⟨g, i * 4 + 1, none⟩ = some (.slice X1 X2 X3) := HI.out.2.cell (by omega) e1
      have f0 : wr.frozen? ⟨g, i * 4, none⟩ = false := by obtain ⟨c', h1, _⟩ := HI.out.2.row; exact h1.frozen _
      have E2 := Aside0.mk e2
      have E3 := Aside0.mk e3
      have ew : wrap64 ((i : Int) + 1) = (i : Int) + 1 := by have := HL.out; unfold wrap64; omega
      have bi : (i : Int) < (N.length : Int) := by omega
      have b0 : (0 : Int) ≤ (i : Int) := by omega
      obtain ⟨kk, hkk⟩ : ∃ kk, kk = k0 + szN (N.take i) := ⟨_, rfl⟩
      have hkb : kk + (1 + n.2.1.length + n.2.2.1.length + n.2.2.2.1.length) ≤ 100000000 := by have := HZ.out; have := szN_le N (i + 1); have := szN_take hn; omega
      have ek : wrap64 ((kk : Int) + 1) = (kk : Int) + 1 := by unfold wrap64; omega
      have hkt := szN_take hn
      rw [← hkk]
      have HKK := Aside0.mk hkk
      have HKT := Aside0.mk hkt
      have HKB := Aside0.mk hkb
      have HNN := Aside0.mk hn
      have lb : g < b i := Nat.lt_of_lt_of_le HG.out (Go.Rf.up_le HB.out i (by omega) 0 (Nat.zero_le _))
      have lE : b (i + 1) ≤ w.heap.size := Nat.le_trans (Go.Rf.up_le HB.out N.length (Nat.le_refl _) (i + 1) (by omega)) HE.out
      have LL := Aside0.mk (And.intro lb (And.intro lE (And.intro l1 (And.intro l2 l3))))
      clear hkk hkt hkb e0 e1 e2 e3 hn lb lE l1 l2 l3
      go_wp2_with fail
      obtain ⟨W1, hW1⟩ : ∃ W1, W1 = wr.setCell ⟨g, i * 4, none⟩ (.bool ((kk : Int) % 3 == 0)) := ⟨_, rfl⟩
      have M1 : MkAt w W1 g cur (i * 4 + 1) (b i) := by rw [hW1]; exact HI.out.2.store (by omega) (by omega) LL.out.1 _
      have Q := HQ.out i n HNN.out
      have LQ := LL.out
      have hkb := HKB.out
      rw [← hW1]
      clear hW1
      refine (Go.Proofs.Ytcolgghllacloaa.R0.ask_markS W1 (b i) _ n.2.1 (kk + 1) Q.1 (by omega) (rK.keep fun x hx => M1.high x (rK.blk hx).1 (rK.blk hx).2)).mono ?_
      rintro e W2 ⟨rfl, k2⟩
      have M2 := M1.keep (lo' := B1) k2 (fun x hx => ⟨by have := (rK.blk hx).1; omega, bK x hx⟩) (by omega)
      have p2 : W2.cell? ⟨g, i * 4 + 2, none⟩ = some (.slice Y1 Y2 Y3) := M2.cell (by omega) E2.out
      clear M1 k2
      go_wp2_with fail
      refine (Go.Proofs.Ytcolgghllacloaa.R0.ask_markS W2 B1 _ n.2.2.1 (kk + 1 + n.2.1.length) Q.2.1 (by omega) (rV.keep fun x hx => M2.high x (rV.blk hx).1 (rV.blk hx).2)).mono ?_
      rintro e W3 ⟨rfl, k3⟩
      have M3 := M2.keep (lo' := B2) k3 (fun x hx => ⟨by have := (rV.blk hx).1; omega, bV x hx⟩) (by omega)
      have p3 : W3.cell? ⟨g, i * 4 + 3, none⟩ = some (.slice Z1 Z2 Z3) := M3.cell (by omega) E3.out
      clear M2 k3 p2
      go_wp2_with fail
      refine (Go.Proofs.Ytcolgghllacloaa.R0.ask_markI W3 B2 _ n.2.2.2.1 (kk + 1 + n.2.1.length + n.2.2.1.length) Q.2.2 (by omega) (rI.keep fun x hx => M3.high x (rI.blk hx).1 (rI.blk hx).2)).mono ?_
      rintro e W4 ⟨rfl, k4⟩
      have M4 := M3.keep (lo' := b (i + 1)) k4 (fun x hx => ⟨by have := (rI.blk hx).1; omega, bI x hx⟩) (by omega)
      have M5 := Aside0.mk (show MkAt w W4 g cur ((i + 1) * 4) (b (i + 1)) from ⟨by obtain ⟨c', h1, h2, h3⟩ := M4.row; exact ⟨c', h1, h2, fun j hj => h3 j (by omega)⟩, M4.high, M4.low, M4.os, M4.tape, M4.output, M4.size⟩)
      clear M3 M4 k4 p3
      go_wp2
      refine ⟨⟨i + 1, num_eq ew, ?_, ⟨hlt, M5.out⟩⟩, meas hlt ew⟩
      · have h1 := HKT.out
        have h2 := HKK.out
        congr 1
        omega
    · obtain rfl : i = N.length := by have := HI.out.1; omega
      have HH := Aside0.mk (show szN (N.take N.length) = szN N by rw [List.take_length])
      go_wp2
      go_ret
      exact ⟨by first | rfl | (rw [HH.out]; rfl), HI.out.2⟩
theorem markTree_any (w : World) (root : Int) (g c k0 E : Nat) (cur : Array Value) (N : List Nd) (hs : cur.size = N.length * 4) (hE : E ≤ w.heap.size) (hc : CellsAt w g 72 cur) (hl : N.length ≤ 1048576) (hN : Nodes w 9 3 cur (g + 1) E N) (hz : k0 + szN N ≤ 100000000)
    (hlen : ∀ (i : Nat) (n : Nd), N[i]? = some n → n.2.1.length ≤ 1048576 ∧ n.2.2.1.length ≤ 1048576 ∧ n.2.2.2.1.length ≤ 1048576) :
    Calls Try.prog 12 #[.agg #[.int .i64 root, .slice (some ⟨g, 0, none⟩) N.length c], .int .i64 k0] w fun e w' => e = .returned (.int .i64 ((k0 + szN N : Nat) : Int)) ∧ Go.Rf.Keep' w w' g E := by
  obtain ⟨b, b1, b2, b3, b4⟩ := hN
  have hw : Below w.heap.size w (w.alloc (.cells #[.int .i64 root, .slice (some ⟨g, 0, none⟩) N.length c] 30)) := (Below.refl _ w).alloc (Nat.le_refl _) _
  have H := Aside0.mk (markNodeS_any (w.alloc (.cells #[.int .i64 root, .slice (some ⟨g, 0, none⟩) N.length c] 30)) g c k0 cur b N hs (by omega) b3 (by rw [b2]; simp; omega) (hc.alloc _) hl
    (fun i n hn => (b4 i n hn).keep (fun x h1 h2 => hw.block x (by
      have := Go.Rf.up_le b3 N.length (Nat.le_refl _) (i + 1) (List.getElem?_eq_some_iff.1 hn).1
      omega)) (fun _ _ _ => rfl)) hz hlen)
  have HE := Aside0.mk hE
  have HB := Aside0.mk b2
  have HW := Aside0.mk hw
  clear hs hE hc hl hz hlen b1 b2 b3 b4 hw
  go_enter Try.func12, Try.ntmps12
  go_wp2_with (go_at_call 30; refine H.out.mono ?_; rintro e w2 ⟨rfl, hM⟩; have HM := Aside0.mk hM; clear hM)
  go_ret
  have hM := HM.out
  have h1 := HB.out
  have h2 := HE.out
  have h3 := hM.size
  simp at h3
  refine ⟨rfl, hM.os, hM.tape, hM.output, by omega, fun x hx hxe => ?_⟩
  rcases hxe with hxe | hxe
  · exact (hM.low x hxe).trans (HW.out.block x hx)
  · exact (hM.high x (by omega) (by simp; omega)).trans (HW.out.block x hx)
end Go.Proofs.Ytcolgghllacloaa.Q
end

section
/-! Rf: the seat's tables. -/
set_option autoImplicit false
namespace Go.Proofs.Ytcolgghllacloaa.R
open Go.Rf
noncomputable def tabs : Tabs where
  ty := [(3, ⟨false, [.int .i64], [], 8⟩),
    (4, ⟨false, [.bool], [], 1⟩),
    (5, ⟨false, [.int .u8], [], 1⟩),
    (9, ⟨false, [.str], [], 16⟩),
    (22, ⟨false, [.sl (.pair .bool (.pair (.sl .str) (.pair (.sl .str) (.pair (.sl (.int .i64)) .unit))))], [], 24⟩),
    (24, ⟨true, [.int .i64, .sl (.pair .bool (.pair (.sl .str) (.pair (.sl .str) (.pair (.sl (.int .i64)) .unit))))], [(0, 1, false), (1, 1, false)], 32⟩),
    (26, ⟨false, [.sl (.pair .str (.pair .str .unit))], [], 24⟩),
    (28, ⟨false, [.sl (.pair .bool (.pair (.sl .str) (.pair (.sl .str) (.pair (.sl (.int .i64)) .unit))))], [], 24⟩),
    (30, ⟨true, [.int .i64, .sl (.pair .bool (.pair (.sl .str) (.pair (.sl .str) (.pair (.sl (.int .i64)) .unit))))], [(0, 1, false), (1, 1, false)], 32⟩),
    (37, ⟨false, [.sl (.int .u8)], [], 24⟩),
    (45, ⟨true, [.str, .str], [(0, 1, false), (1, 1, false)], 32⟩),
    (62, ⟨false, [.sl .str], [], 24⟩),
    (65, ⟨false, [.sl (.int .i64)], [], 24⟩),
    (67, ⟨true, [.bool, .sl .str, .sl .str, .sl (.int .i64)], [(0, 1, false), (1, 1, false), (2, 1, false), (3, 1, false)], 80⟩),
    (69, ⟨false, [.sl .bool], [], 24⟩),
    (72, ⟨true, [.bool, .sl .str, .sl .str, .sl (.int .i64)], [(0, 1, false), (1, 1, false), (2, 1, false), (3, 1, false)], 80⟩),
    (85, ⟨true, [.int .i64, .sl (.pair .bool (.pair (.sl .str) (.pair (.sl .str) (.pair (.sl (.int .i64)) .unit)))), .sl .bool, .int .i64], [(0, 2, true), (2, 1, false), (3, 1, false)], 64⟩)]
  el := [(22, 67), (26, 45), (28, 72), (37, 5), (62, 9), (65, 3), (69, 4)]
  ifcs := []
  known := [6, 7, 10, 11, 13, 14, 18, 23, 24, 25, 28, 29, 31, 34, 38, 39, 40, 41, 45, 51, 52, 53, 56, 57, 58, 59, 62, 63, 68, 72, 80, 81, 82, 83, 95, 96]
  spec := [(6, ⟨[.agg [.v (.int .i64), .v (.sl (.pair .bool (.pair (.sl .str) (.pair (.sl .str) (.pair (.sl (.int .i64)) .unit)))))], .c (.v (.int .i64))], [.c (.v (.int .i64))]⟩),
    (7, ⟨[.agg [.v (.int .i64), .v (.sl (.pair .bool (.pair (.sl .str) (.pair (.sl .str) (.pair (.sl (.int .i64)) .unit)))))], .c (.v .str), .c (.v .str)], [.c (.v (.sl (.pair .str (.pair .str .unit))))]⟩),
    (10, ⟨[.c (.v (.sl (.pair .str (.pair .str .unit)))), .c (.v (.sl (.pair .str (.pair .str .unit))))], [.c (.v .bool)]⟩),
    (11, ⟨[.agg [.v (.int .i64), .v (.sl (.pair .bool (.pair (.sl .str) (.pair (.sl .str) (.pair (.sl (.int .i64)) .unit)))))], .agg [.v (.int .i64), .v (.sl (.pair .bool (.pair (.sl .str) (.pair (.sl .str) (.pair (.sl (.int .i64)) .unit)))))]], [.c (.v .bool)]⟩),
    (13, ⟨[.c (.o (.pair .str (.pair .str .unit)) 45 true), .c (.v (.int .i64))], [.c (.v (.int .i64))]⟩),
    (14, ⟨[.c (.v (.sl (.pair .str (.pair .str .unit)))), .c (.v (.int .i64))], [.c (.v (.int .i64))]⟩),
    (18, ⟨[.agg [.v (.int .i64), .v (.sl (.pair .bool (.pair (.sl .str) (.pair (.sl .str) (.pair (.sl (.int .i64)) .unit)))))]], [.c (.v .bool)]⟩),
    (23, ⟨[.c (.v (.sl (.pair .bool (.pair (.sl .str) (.pair (.sl .str) (.pair (.sl (.int .i64)) .unit)))))), .c (.v (.int .i64))], [.c (.v (.int .i64))]⟩),
    (24, ⟨[.agg [.v (.int .i64), .v (.sl (.pair .bool (.pair (.sl .str) (.pair (.sl .str) (.pair (.sl (.int .i64)) .unit)))))]], [.c (.v (.int .i64))]⟩),
    (25, ⟨[.agg [.v (.int .i64), .v (.sl (.pair .bool (.pair (.sl .str) (.pair (.sl .str) (.pair (.sl (.int .i64)) .unit)))))], .c (.v (.int .i64)), .c (.v .str), .c (.v .str), .c (.o (.pair .str (.pair .str .unit)) 45 false)], [.c (.o (.pair .str (.pair .str .unit)) 45 true)]⟩),
    (28, ⟨[.agg [.v .str, .v .str], .agg [.v .str, .v .str]], [.c (.v .bool)]⟩),
    (29, ⟨[.c (.v (.sl (.pair .bool (.pair (.sl .str) (.pair (.sl .str) (.pair (.sl (.int .i64)) .unit)))))), .c (.v (.sl (.pair .bool (.pair (.sl .str) (.pair (.sl .str) (.pair (.sl (.int .i64)) .unit))))))], [.c (.v .bool)]⟩),
    (31, ⟨[.c (.v (.int .i64))], [.c (.v .str)]⟩),
    (34, ⟨[.agg [.v (.int .i64), .v (.sl (.pair .bool (.pair (.sl .str) (.pair (.sl .str) (.pair (.sl (.int .i64)) .unit)))))]], [.c (.v (.int .i64))]⟩),
    (38, ⟨[.agg [.v .bool, .v (.sl .str), .v (.sl .str), .v (.sl (.int .i64))], .c (.v (.int .i64))], [.c (.v (.int .i64))]⟩),
    (39, ⟨[.c (.v (.int .i64)), .c (.v (.int .i64)), .c (.v (.int .i64))], [.c (.v .bool)]⟩),
    (40, ⟨[.agg [.v (.int .i64), .v (.sl (.pair .bool (.pair (.sl .str) (.pair (.sl .str) (.pair (.sl (.int .i64)) .unit)))))], .c (.v (.int .i64)), .c (.v .str), .c (.v .str), .c (.v .bool), .c (.o .bool 4 true)], [.c (.v (.int .i64))]⟩),
    (41, ⟨[.agg [.v .bool, .v (.sl .str), .v (.sl .str), .v (.sl (.int .i64))]], [.c (.v .bool)]⟩),
    (45, ⟨[.agg [.v .bool, .v (.sl .str), .v (.sl .str), .v (.sl (.int .i64))], .agg [.v .bool, .v (.sl .str), .v (.sl .str), .v (.sl (.int .i64))]], [.c (.v .bool)]⟩),
    (51, ⟨[.c (.v (.int .i64)), .c (.v (.int .i64)), .c (.v (.int .i64))], [.c (.v .bool)]⟩),
    (52, ⟨[.box [.v (.int .i64), .v (.sl (.pair .bool (.pair (.sl .str) (.pair (.sl .str) (.pair (.sl (.int .i64)) .unit))))), .o .bool 4 true, .v (.int .i64)], .c (.v (.int .i64)), .c (.v (.int .i64)), .c (.v .str), .c (.v .str)], [.c (.v .bool)]⟩),
    (53, ⟨[.agg [.v .bool, .v (.sl .str), .v (.sl .str), .v (.sl (.int .i64))]], [.c (.v .bool)]⟩),
    (56, ⟨[.c (.v (.sl .str)), .c (.v (.int .i64))], [.c (.v (.int .i64))]⟩),
    (57, ⟨[.c (.v (.sl (.int .i64))), .c (.v (.int .i64))], [.c (.v (.int .i64))]⟩),
    (58, ⟨[.agg [.v .bool, .v (.sl .str), .v (.sl .str), .v (.sl (.int .i64))]], [.c (.v .bool)]⟩),
    (59, ⟨[.c (.v (.sl .str)), .c (.v .str), .c (.v .str)], [.c (.v .bool)]⟩),
    (62, ⟨[.c (.v (.sl .str)), .c (.v (.sl .str))], [.c (.v .bool)]⟩),
    (63, ⟨[.c (.v (.sl (.int .i64))), .c (.v (.sl (.int .i64)))], [.c (.v .bool)]⟩),
    (68, ⟨[.agg [.v .bool, .v (.sl .str), .v (.sl .str), .v (.sl (.int .i64))]], [.c (.v .bool)]⟩),
    (72, ⟨[.c (.v (.sl .str))], [.c (.v .bool)]⟩),
    (81, ⟨[.c (.v .str)], [.c (.v .bool)]⟩),
    (83, ⟨[.c (.v (.int .i64))], [.c (.v .bool)]⟩),
    (82080, ⟨[.c (.v (.sl .str)), .clo 81 []], [.c (.v .bool)]⟩),
    (82095, ⟨[.c (.v (.sl .str)), .clo 81 []], [.c (.v (.int .i64))]⟩),
    (84082, ⟨[.c (.v (.sl (.int .i64))), .clo 83 []], [.c (.v .bool)]⟩),
    (84096, ⟨[.c (.v (.sl (.int .i64))), .clo 83 []], [.c (.v (.int .i64))]⟩)]
  cut := [(10, [(4, [(0, .c (.v (.sl (.pair .str (.pair .str .unit))))), (1, .c (.v (.sl (.pair .str (.pair .str .unit))))), (5, .c (.v (.int .i64)))])]),
    (13, [(2, [(0, .c (.o (.pair .str (.pair .str .unit)) 45 true)), (1, .c (.v (.int .i64))), (5, .c (.v (.int .i64)))])]),
    (14, [(2, [(0, .c (.v (.sl (.pair .str (.pair .str .unit))))), (1, .c (.v (.int .i64))), (5, .c (.v (.int .i64)))])]),
    (23, [(5, [(0, .c (.v (.sl (.pair .bool (.pair (.sl .str) (.pair (.sl .str) (.pair (.sl (.int .i64)) .unit))))))), (1, .c (.v (.int .i64))), (5, .c (.v (.int .i64)))])]),
    (24, [(6, [(1, .box [.v (.int .i64), .v (.sl (.pair .bool (.pair (.sl .str) (.pair (.sl .str) (.pair (.sl (.int .i64)) .unit)))))]), (3, .c (.o .bool 4 true)), (4, .c (.v (.int .i64))), (5, .c (.v (.int .i64)))])]),
    (25, [(3, [(2, .c (.v .str)), (3, .c (.v .str)), (4, .c (.o (.pair .str (.pair .str .unit)) 45 true)), (5, .box [.v (.int .i64), .v (.sl (.pair .bool (.pair (.sl .str) (.pair (.sl .str) (.pair (.sl (.int .i64)) .unit)))))]), (11, .box [.v .bool, .v (.sl .str), .v (.sl .str), .v (.sl (.int .i64))]), (12, .c (.v (.int .i64)))]), (7, [(2, .c (.v .str)), (3, .c (.v .str)), (4, .c (.o (.pair .str (.pair .str .unit)) 45 true)), (11, .box [.v .bool, .v (.sl .str), .v (.sl .str), .v (.sl (.int .i64))]), (13, .c (.v (.int .i64)))]), (8, [(2, .c (.v .str)), (3, .c (.v .str)), (4, .c (.o (.pair .str (.pair .str .unit)) 45 true)), (11, .box [.v .bool, .v (.sl .str), .v (.sl .str), .v (.sl (.int .i64))]), (13, .c (.v (.int .i64)))])]),
    (29, [(4, [(0, .c (.v (.sl (.pair .bool (.pair (.sl .str) (.pair (.sl .str) (.pair (.sl (.int .i64)) .unit))))))), (1, .c (.v (.sl (.pair .bool (.pair (.sl .str) (.pair (.sl .str) (.pair (.sl (.int .i64)) .unit))))))), (5, .c (.v (.int .i64)))])]),
    (31, [(4, [(0, .c (.v (.int .i64))), (3, .c (.v .str))])]),
    (34, [(7, [(3, .box [.v (.int .i64), .v (.sl (.pair .bool (.pair (.sl .str) (.pair (.sl .str) (.pair (.sl (.int .i64)) .unit))))), .o .bool 4 true, .v (.int .i64)]), (26, .c (.v (.sl (.pair .bool (.pair (.sl .str) (.pair (.sl .str) (.pair (.sl (.int .i64)) .unit))))))), (27, .c (.v (.int .i64))), (28, .c (.v (.int .i64)))])]),
    (40, [(11, [(2, .c (.v .str)), (3, .c (.v .str)), (5, .c (.o .bool 4 true)), (6, .box [.v (.int .i64), .v (.sl (.pair .bool (.pair (.sl .str) (.pair (.sl .str) (.pair (.sl (.int .i64)) .unit)))))]), (13, .box [.v .bool, .v (.sl .str), .v (.sl .str), .v (.sl (.int .i64))]), (14, .c (.v (.int .i64))), (15, .c (.v (.int .i64)))]), (17, [(2, .c (.v .str)), (3, .c (.v .str)), (5, .c (.o .bool 4 true)), (6, .box [.v (.int .i64), .v (.sl (.pair .bool (.pair (.sl .str) (.pair (.sl .str) (.pair (.sl (.int .i64)) .unit)))))]), (13, .box [.v .bool, .v (.sl .str), .v (.sl .str), .v (.sl (.int .i64))]), (14, .c (.v (.int .i64))), (15, .c (.v (.int .i64))), (16, .c (.v .str)), (17, .c (.v .str))]), (19, [(2, .c (.v .str)), (3, .c (.v .str)), (5, .c (.o .bool 4 true)), (6, .box [.v (.int .i64), .v (.sl (.pair .bool (.pair (.sl .str) (.pair (.sl .str) (.pair (.sl (.int .i64)) .unit)))))]), (13, .box [.v .bool, .v (.sl .str), .v (.sl .str), .v (.sl (.int .i64))]), (14, .c (.v (.int .i64))), (15, .c (.v (.int .i64))), (16, .c (.v .str)), (17, .c (.v .str))])]),
    (52, [(6, [(0, .box [.v (.int .i64), .v (.sl (.pair .bool (.pair (.sl .str) (.pair (.sl .str) (.pair (.sl (.int .i64)) .unit))))), .o .bool 4 true, .v (.int .i64)]), (2, .c (.v (.int .i64))), (3, .c (.v .str)), (4, .c (.v .str)), (11, .box [.v .bool, .v (.sl .str), .v (.sl .str), .v (.sl (.int .i64))]), (60, .c (.v (.sl .str))), (61, .c (.v (.int .i64))), (62, .c (.v (.int .i64)))]), (14, [(0, .box [.v (.int .i64), .v (.sl (.pair .bool (.pair (.sl .str) (.pair (.sl .str) (.pair (.sl (.int .i64)) .unit))))), .o .bool 4 true, .v (.int .i64)]), (2, .c (.v (.int .i64)))]), (16, [(0, .box [.v (.int .i64), .v (.sl (.pair .bool (.pair (.sl .str) (.pair (.sl .str) (.pair (.sl (.int .i64)) .unit))))), .o .bool 4 true, .v (.int .i64)]), (2, .c (.v (.int .i64))), (3, .c (.v .str)), (4, .c (.v .str)), (11, .box [.v .bool, .v (.sl .str), .v (.sl .str), .v (.sl (.int .i64))]), (97, .c (.v (.sl (.int .i64)))), (98, .c (.v (.int .i64))), (99, .c (.v (.int .i64)))]), (21, [(0, .box [.v (.int .i64), .v (.sl (.pair .bool (.pair (.sl .str) (.pair (.sl .str) (.pair (.sl (.int .i64)) .unit))))), .o .bool 4 true, .v (.int .i64)]), (2, .c (.v (.int .i64))), (3, .c (.v .str)), (4, .c (.v .str)), (11, .box [.v .bool, .v (.sl .str), .v (.sl .str), .v (.sl (.int .i64))]), (14, .c (.v (.int .i64))), (15, .c (.v (.int .i64))), (16, .c (.v .str)), (17, .c (.v .str)), (97, .c (.v (.sl (.int .i64)))), (98, .c (.v (.int .i64))), (99, .c (.v (.int .i64)))]), (23, [(0, .box [.v (.int .i64), .v (.sl (.pair .bool (.pair (.sl .str) (.pair (.sl .str) (.pair (.sl (.int .i64)) .unit))))), .o .bool 4 true, .v (.int .i64)]), (2, .c (.v (.int .i64))), (3, .c (.v .str)), (4, .c (.v .str)), (11, .box [.v .bool, .v (.sl .str), .v (.sl .str), .v (.sl (.int .i64))]), (15, .c (.v (.int .i64))), (16, .c (.v .str)), (17, .c (.v .str)), (97, .c (.v (.sl (.int .i64)))), (98, .c (.v (.int .i64))), (99, .c (.v (.int .i64)))])]),
    (56, [(5, [(0, .c (.v (.sl .str))), (1, .c (.v (.int .i64))), (5, .c (.v (.int .i64)))])]),
    (58, [(5, [(1, .box [.v .bool, .v (.sl .str), .v (.sl .str), .v (.sl (.int .i64))]), (3, .c (.v (.int .i64)))]), (11, [(1, .box [.v .bool, .v (.sl .str), .v (.sl .str), .v (.sl (.int .i64))]), (4, .c (.v (.int .i64)))])]),
    (59, [(2, [(0, .c (.v (.sl .str))), (1, .c (.v .str)), (2, .c (.v .str)), (7, .c (.v (.int .i64)))])]),
    (62, [(4, [(0, .c (.v (.sl .str))), (1, .c (.v (.sl .str))), (5, .c (.v (.int .i64)))])]),
    (63, [(4, [(0, .c (.v (.sl (.int .i64)))), (1, .c (.v (.sl (.int .i64)))), (5, .c (.v (.int .i64)))])]),
    (68, [(4, [(1, .box [.v .bool, .v (.sl .str), .v (.sl .str), .v (.sl (.int .i64))]), (10, .c (.v (.sl .str))), (11, .c (.v (.int .i64))), (12, .c (.v (.int .i64)))])]),
    (72, [(2, [(0, .c (.v (.sl .str))), (3, .c (.v (.int .i64)))])]),
    (82095, [(2, [(0, .c (.v (.sl .str))), (1, .clo 81 []), (7, .c (.v (.int .i64))), (8, .c (.v (.int .i64)))])]),
    (84096, [(2, [(0, .c (.v (.sl (.int .i64)))), (1, .clo 83 []), (7, .c (.v (.int .i64))), (8, .c (.v (.int .i64)))])])]
  eqs := []
theorem tabs_ok : tabs.ok Try.prog = true := by kernel_rfl
noncomputable def cx : Go.Rf.Cx := tabs.cx Try.prog (fun _ => none) (fun _ => none) (fun _ => none)
theorem good : Go.Rf.Good cx := Go.Rf.Tabs.good tabs_ok
theorem told (k f : Nat) (inp : (cx.spec f).In) (out : (cx.spec f).Out) (h : callF cx k f inp = some out) : Go.Rf.Contract cx f inp out := (Go.Rf.run_ok good (fun f g inp out h => by cases h) k).1 f inp out h
end Go.Proofs.Ytcolgghllacloaa.R
end

section
/-! Rf: the functions, and what each answers. -/
set_option autoImplicit false
set_option linter.unusedVariables false
namespace Go.Proofs.Ytcolgghllacloaa.R
open Go.Rf
/-! loop.example/jetton/laws.szTree -/
noncomputable def F6 (k : Nat) (a0_0 : Int) (a0_1 : List (Bool × (List ByteArray) × (List ByteArray) × (List Int) × Unit)) (a1 : Int) : Option ((Int × Unit) × ((Unit × Unit × Unit) × Unit × Unit)) := callF cx k 6 ((a0_0, a0_1, ()), a1, ())
/-! loop.example/jetton/spec.TreeList -/
noncomputable def F7 (k : Nat) (a0_0 : Int) (a0_1 : List (Bool × (List ByteArray) × (List ByteArray) × (List Int) × Unit)) (a1 : ByteArray) (a2 : ByteArray) : Option (((List (ByteArray × ByteArray × Unit)) × Unit) × ((Unit × Unit × Unit) × Unit × Unit × Unit)) := callF cx k 7 ((a0_0, a0_1, ()), a1, a2, ())
/-! loop.example/jetton/laws.eqPairS -/
noncomputable def F10 (k : Nat) (a0 : List (ByteArray × ByteArray × Unit)) (a1 : List (ByteArray × ByteArray × Unit)) : Option ((Bool × Unit) × (Unit × Unit × Unit)) := callF cx k 10 (a0, a1, ())
noncomputable def F10c4 (k : Nat) (x0 : List (ByteArray × ByteArray × Unit)) (x1 : List (ByteArray × ByteArray × Unit)) (x5 : Int) : Option ((Bool × Unit) × (Unit × Unit × Unit)) := cutF cx 10 4 Try.f10 k (x0, x1, x5, ())
/-! loop.example/jetton/laws.eqTree -/
noncomputable def F11 (k : Nat) (a0_0 : Int) (a0_1 : List (Bool × (List ByteArray) × (List ByteArray) × (List Int) × Unit)) (a1_0 : Int) (a1_1 : List (Bool × (List ByteArray) × (List ByteArray) × (List Int) × Unit)) : Option ((Bool × Unit) × ((Unit × Unit × Unit) × (Unit × Unit × Unit) × Unit)) := callF cx k 11 ((a0_0, a0_1, ()), (a1_0, a1_1, ()), ())
/-! loop.example/jetton/laws.markPairS -/
noncomputable def F13 (k : Nat) (a0 : List (ByteArray × ByteArray × Unit)) (a1 : Int) : Option ((Int × Unit) × ((List (ByteArray × ByteArray × Unit)) × Unit × Unit)) := callF cx k 13 (a0, a1, ())
noncomputable def F13c2 (k : Nat) (x0 : List (ByteArray × ByteArray × Unit)) (x1 : Int) (x5 : Int) : Option ((Int × Unit) × ((List (ByteArray × ByteArray × Unit)) × Unit × Unit)) := cutF cx 13 2 Try.f13 k (x0, x1, x5, ())
/-! loop.example/jetton/laws.heldPairS -/
noncomputable def F14 (k : Nat) (a0 : List (ByteArray × ByteArray × Unit)) (a1 : Int) : Option ((Int × Unit) × (Unit × Unit × Unit)) := callF cx k 14 (a0, a1, ())
noncomputable def F14c2 (k : Nat) (x0 : List (ByteArray × ByteArray × Unit)) (x1 : Int) (x5 : Int) : Option ((Int × Unit) × (Unit × Unit × Unit)) := cutF cx 14 2 Try.f14 k (x0, x1, x5, ())
/-! loop.example/jetton/impl.TreeOk -/
noncomputable def F18 (k : Nat) (a0_0 : Int) (a0_1 : List (Bool × (List ByteArray) × (List ByteArray) × (List Int) × Unit)) : Option ((Bool × Unit) × ((Unit × Unit × Unit) × Unit)) := callF cx k 18 ((a0_0, a0_1, ()), ())
/-! loop.example/jetton/laws.szNodeS -/
noncomputable def F23 (k : Nat) (a0 : List (Bool × (List ByteArray) × (List ByteArray) × (List Int) × Unit)) (a1 : Int) : Option ((Int × Unit) × (Unit × Unit × Unit)) := callF cx k 23 (a0, a1, ())
noncomputable def F23c5 (k : Nat) (x0 : List (Bool × (List ByteArray) × (List ByteArray) × (List Int) × Unit)) (x1 : Int) (x5 : Int) : Option ((Int × Unit) × (Unit × Unit × Unit)) := cutF cx 23 5 Try.f23 k (x0, x1, x5, ())
/-! loop.example/jetton/spec.l9Deep -/
noncomputable def F24 (k : Nat) (a0_0 : Int) (a0_1 : List (Bool × (List ByteArray) × (List ByteArray) × (List Int) × Unit)) : Option ((Int × Unit) × ((Unit × Unit × Unit) × Unit)) := callF cx k 24 ((a0_0, a0_1, ()), ())
noncomputable def F24c6 (k : Nat) (x1_0 : Int) (x1_1 : List (Bool × (List ByteArray) × (List ByteArray) × (List Int) × Unit)) (x3 : List Bool) (x4 : Int) (x5 : Int) : Option ((Int × Unit) × ((Unit × Unit × Unit) × Unit)) := cutF cx 24 6 Try.f24 k ((x1_0, x1_1, ()), x3, x4, x5, ())
/-! loop.example/jetton/spec.l9List -/
noncomputable def F25 (k : Nat) (a0_0 : Int) (a0_1 : List (Bool × (List ByteArray) × (List ByteArray) × (List Int) × Unit)) (a1 : Int) (a2 : ByteArray) (a3 : ByteArray) (a4 : List (ByteArray × ByteArray × Unit)) : Option (((List (ByteArray × ByteArray × Unit)) × Unit) × ((Unit × Unit × Unit) × Unit × Unit × Unit × Unit × Unit)) := callF cx k 25 ((a0_0, a0_1, ()), a1, a2, a3, a4, ())
noncomputable def F25c3 (k : Nat) (x2 : ByteArray) (x3 : ByteArray) (x4 : List (ByteArray × ByteArray × Unit)) (x5_0 : Int) (x5_1 : List (Bool × (List ByteArray) × (List ByteArray) × (List Int) × Unit)) (x11_0 : Bool) (x11_1 : List ByteArray) (x11_2 : List ByteArray) (x11_3 : List Int) (x12 : Int) : Option (((List (ByteArray × ByteArray × Unit)) × Unit) × ((Unit × Unit × Unit) × Unit × Unit × Unit × Unit × Unit)) := cutF cx 25 3 Try.f25 k (x2, x3, x4, (x5_0, x5_1, ()), (x11_0, x11_1, x11_2, x11_3, ()), x12, ())
noncomputable def F25c7 (k : Nat) (x2 : ByteArray) (x3 : ByteArray) (x4 : List (ByteArray × ByteArray × Unit)) (x11_0 : Bool) (x11_1 : List ByteArray) (x11_2 : List ByteArray) (x11_3 : List Int) (x13 : Int) : Option (((List (ByteArray × ByteArray × Unit)) × Unit) × ((Unit × Unit × Unit) × Unit × Unit × Unit × Unit × Unit)) := cutF cx 25 7 Try.f25 k (x2, x3, x4, (x11_0, x11_1, x11_2, x11_3, ()), x13, ())
noncomputable def F25c8 (k : Nat) (x2 : ByteArray) (x3 : ByteArray) (x4 : List (ByteArray × ByteArray × Unit)) (x11_0 : Bool) (x11_1 : List ByteArray) (x11_2 : List ByteArray) (x11_3 : List Int) (x13 : Int) : Option (((List (ByteArray × ByteArray × Unit)) × Unit) × ((Unit × Unit × Unit) × Unit × Unit × Unit × Unit × Unit)) := cutF cx 25 8 Try.f25 k (x2, x3, x4, (x11_0, x11_1, x11_2, x11_3, ()), x13, ())
/-! loop.example/jetton/laws.eqPair -/
noncomputable def F28 (k : Nat) (a0_0 : ByteArray) (a0_1 : ByteArray) (a1_0 : ByteArray) (a1_1 : ByteArray) : Option ((Bool × Unit) × ((Unit × Unit × Unit) × (Unit × Unit × Unit) × Unit)) := callF cx k 28 ((a0_0, a0_1, ()), (a1_0, a1_1, ()), ())
/-! loop.example/jetton/laws.eqNodeS -/
noncomputable def F29 (k : Nat) (a0 : List (Bool × (List ByteArray) × (List ByteArray) × (List Int) × Unit)) (a1 : List (Bool × (List ByteArray) × (List ByteArray) × (List Int) × Unit)) : Option ((Bool × Unit) × (Unit × Unit × Unit)) := callF cx k 29 (a0, a1, ())
noncomputable def F29c4 (k : Nat) (x0 : List (Bool × (List ByteArray) × (List ByteArray) × (List Int) × Unit)) (x1 : List (Bool × (List ByteArray) × (List ByteArray) × (List Int) × Unit)) (x5 : Int) : Option ((Bool × Unit) × (Unit × Unit × Unit)) := cutF cx 29 4 Try.f29 k (x0, x1, x5, ())
/-! loop.example/jetton/laws.markText -/
noncomputable def F31 (k : Nat) (a0 : Int) : Option ((ByteArray × Unit) × (Unit × Unit)) := callF cx k 31 (a0, ())
noncomputable def F31c4 (k : Nat) (x0 : Int) (x3 : ByteArray) : Option ((ByteArray × Unit) × (Unit × Unit)) := cutF cx 31 4 Try.f31 k (x0, x3, ())
/-! (loop.example/jetton/impl.Tree).deep -/
noncomputable def F34 (k : Nat) (a0_0 : Int) (a0_1 : List (Bool × (List ByteArray) × (List ByteArray) × (List Int) × Unit)) : Option ((Int × Unit) × ((Unit × Unit × Unit) × Unit)) := callF cx k 34 ((a0_0, a0_1, ()), ())
noncomputable def F34c7 (k : Nat) (x3_0 : Int) (x3_1 : List (Bool × (List ByteArray) × (List ByteArray) × (List Int) × Unit)) (x3_2 : List Bool) (x3_3 : Int) (x26 : List (Bool × (List ByteArray) × (List ByteArray) × (List Int) × Unit)) (x27 : Int) (x28 : Int) : Option ((Int × Unit) × ((Unit × Unit × Unit) × Unit)) := cutF cx 34 7 Try.f34 k ((x3_0, x3_1, x3_2, x3_3, ()), x26, x27, x28, ())
/-! loop.example/jetton/laws.szNode -/
noncomputable def F38 (k : Nat) (a0_0 : Bool) (a0_1 : List ByteArray) (a0_2 : List ByteArray) (a0_3 : List Int) (a1 : Int) : Option ((Int × Unit) × ((Unit × Unit × Unit × Unit × Unit) × Unit × Unit)) := callF cx k 38 ((a0_0, a0_1, a0_2, a0_3, ()), a1, ())
/-! loop.example/jetton/spec.l1In -/
noncomputable def F39 (k : Nat) (a0 : Int) (a1 : Int) (a2 : Int) : Option ((Bool × Unit) × (Unit × Unit × Unit × Unit)) := callF cx k 39 (a0, a1, a2, ())
/-! loop.example/jetton/spec.l9Walk -/
noncomputable def F40 (k : Nat) (a0_0 : Int) (a0_1 : List (Bool × (List ByteArray) × (List ByteArray) × (List Int) × Unit)) (a1 : Int) (a2 : ByteArray) (a3 : ByteArray) (a4 : Bool) (a5 : List Bool) : Option ((Int × Unit) × ((Unit × Unit × Unit) × Unit × Unit × Unit × Unit × (List Bool) × Unit)) := callF cx k 40 ((a0_0, a0_1, ()), a1, a2, a3, a4, a5, ())
noncomputable def F40c11 (k : Nat) (x2 : ByteArray) (x3 : ByteArray) (x5 : List Bool) (x6_0 : Int) (x6_1 : List (Bool × (List ByteArray) × (List ByteArray) × (List Int) × Unit)) (x13_0 : Bool) (x13_1 : List ByteArray) (x13_2 : List ByteArray) (x13_3 : List Int) (x14 : Int) (x15 : Int) : Option ((Int × Unit) × ((Unit × Unit × Unit) × Unit × Unit × Unit × Unit × (List Bool) × Unit)) := cutF cx 40 11 Try.f40 k (x2, x3, x5, (x6_0, x6_1, ()), (x13_0, x13_1, x13_2, x13_3, ()), x14, x15, ())
noncomputable def F40c17 (k : Nat) (x2 : ByteArray) (x3 : ByteArray) (x5 : List Bool) (x6_0 : Int) (x6_1 : List (Bool × (List ByteArray) × (List ByteArray) × (List Int) × Unit)) (x13_0 : Bool) (x13_1 : List ByteArray) (x13_2 : List ByteArray) (x13_3 : List Int) (x14 : Int) (x15 : Int) (x16 : ByteArray) (x17 : ByteArray) : Option ((Int × Unit) × ((Unit × Unit × Unit) × Unit × Unit × Unit × Unit × (List Bool) × Unit)) := cutF cx 40 17 Try.f40 k (x2, x3, x5, (x6_0, x6_1, ()), (x13_0, x13_1, x13_2, x13_3, ()), x14, x15, x16, x17, ())
noncomputable def F40c19 (k : Nat) (x2 : ByteArray) (x3 : ByteArray) (x5 : List Bool) (x6_0 : Int) (x6_1 : List (Bool × (List ByteArray) × (List ByteArray) × (List Int) × Unit)) (x13_0 : Bool) (x13_1 : List ByteArray) (x13_2 : List ByteArray) (x13_3 : List Int) (x14 : Int) (x15 : Int) (x16 : ByteArray) (x17 : ByteArray) : Option ((Int × Unit) × ((Unit × Unit × Unit) × Unit × Unit × Unit × Unit × (List Bool) × Unit)) := cutF cx 40 19 Try.f40 k (x2, x3, x5, (x6_0, x6_1, ()), (x13_0, x13_1, x13_2, x13_3, ()), x14, x15, x16, x17, ())
/-! loop.example/jetton/spec.l9Zero -/
noncomputable def F41 (k : Nat) (a0_0 : Bool) (a0_1 : List ByteArray) (a0_2 : List ByteArray) (a0_3 : List Int) : Option ((Bool × Unit) × ((Unit × Unit × Unit × Unit × Unit) × Unit)) := callF cx k 41 ((a0_0, a0_1, a0_2, a0_3, ()), ())
/-! loop.example/jetton/laws.eqNode -/
noncomputable def F45 (k : Nat) (a0_0 : Bool) (a0_1 : List ByteArray) (a0_2 : List ByteArray) (a0_3 : List Int) (a1_0 : Bool) (a1_1 : List ByteArray) (a1_2 : List ByteArray) (a1_3 : List Int) : Option ((Bool × Unit) × ((Unit × Unit × Unit × Unit × Unit) × (Unit × Unit × Unit × Unit × Unit) × Unit)) := callF cx k 45 ((a0_0, a0_1, a0_2, a0_3, ()), (a1_0, a1_1, a1_2, a1_3, ()), ())
/-! loop.example/jetton/impl.in -/
noncomputable def F51 (k : Nat) (a0 : Int) (a1 : Int) (a2 : Int) : Option ((Bool × Unit) × (Unit × Unit × Unit × Unit)) := callF cx k 51 (a0, a1, a2, ())
/-! (*loop.example/jetton/impl.walker).walk -/
noncomputable def F52 (k : Nat) (a0_0 : Int) (a0_1 : List (Bool × (List ByteArray) × (List ByteArray) × (List Int) × Unit)) (a0_2 : List Bool) (a0_3 : Int) (a1 : Int) (a2 : Int) (a3 : ByteArray) (a4 : ByteArray) : Option ((Bool × Unit) × ((Int × (List (Bool × (List ByteArray) × (List ByteArray) × (List Int) × Unit)) × (List Bool) × Int × Unit) × Unit × Unit × Unit × Unit × Unit)) := callF cx k 52 ((a0_0, a0_1, a0_2, a0_3, ()), a1, a2, a3, a4, ())
noncomputable def F52c6 (k : Nat) (x0_0 : Int) (x0_1 : List (Bool × (List ByteArray) × (List ByteArray) × (List Int) × Unit)) (x0_2 : List Bool) (x0_3 : Int) (x2 : Int) (x3 : ByteArray) (x4 : ByteArray) (x11_0 : Bool) (x11_1 : List ByteArray) (x11_2 : List ByteArray) (x11_3 : List Int) (x60 : List ByteArray) (x61 : Int) (x62 : Int) : Option ((Bool × Unit) × ((Int × (List (Bool × (List ByteArray) × (List ByteArray) × (List Int) × Unit)) × (List Bool) × Int × Unit) × Unit × Unit × Unit × Unit × Unit)) := cutF cx 52 6 Try.f52 k ((x0_0, x0_1, x0_2, x0_3, ()), x2, x3, x4, (x11_0, x11_1, x11_2, x11_3, ()), x60, x61, x62, ())
noncomputable def F52c14 (k : Nat) (x0_0 : Int) (x0_1 : List (Bool × (List ByteArray) × (List ByteArray) × (List Int) × Unit)) (x0_2 : List Bool) (x0_3 : Int) (x2 : Int) : Option ((Bool × Unit) × ((Int × (List (Bool × (List ByteArray) × (List ByteArray) × (List Int) × Unit)) × (List Bool) × Int × Unit) × Unit × Unit × Unit × Unit × Unit)) := cutF cx 52 14 Try.f52 k ((x0_0, x0_1, x0_2, x0_3, ()), x2, ())
noncomputable def F52c16 (k : Nat) (x0_0 : Int) (x0_1 : List (Bool × (List ByteArray) × (List ByteArray) × (List Int) × Unit)) (x0_2 : List Bool) (x0_3 : Int) (x2 : Int) (x3 : ByteArray) (x4 : ByteArray) (x11_0 : Bool) (x11_1 : List ByteArray) (x11_2 : List ByteArray) (x11_3 : List Int) (x97 : List Int) (x98 : Int) (x99 : Int) : Option ((Bool × Unit) × ((Int × (List (Bool × (List ByteArray) × (List ByteArray) × (List Int) × Unit)) × (List Bool) × Int × Unit) × Unit × Unit × Unit × Unit × Unit)) := cutF cx 52 16 Try.f52 k ((x0_0, x0_1, x0_2, x0_3, ()), x2, x3, x4, (x11_0, x11_1, x11_2, x11_3, ()), x97, x98, x99, ())
noncomputable def F52c21 (k : Nat) (x0_0 : Int) (x0_1 : List (Bool × (List ByteArray) × (List ByteArray) × (List Int) × Unit)) (x0_2 : List Bool) (x0_3 : Int) (x2 : Int) (x3 : ByteArray) (x4 : ByteArray) (x11_0 : Bool) (x11_1 : List ByteArray) (x11_2 : List ByteArray) (x11_3 : List Int) (x14 : Int) (x15 : Int) (x16 : ByteArray) (x17 : ByteArray) (x97 : List Int) (x98 : Int) (x99 : Int) : Option ((Bool × Unit) × ((Int × (List (Bool × (List ByteArray) × (List ByteArray) × (List Int) × Unit)) × (List Bool) × Int × Unit) × Unit × Unit × Unit × Unit × Unit)) := cutF cx 52 21 Try.f52 k ((x0_0, x0_1, x0_2, x0_3, ()), x2, x3, x4, (x11_0, x11_1, x11_2, x11_3, ()), x14, x15, x16, x17, x97, x98, x99, ())
noncomputable def F52c23 (k : Nat) (x0_0 : Int) (x0_1 : List (Bool × (List ByteArray) × (List ByteArray) × (List Int) × Unit)) (x0_2 : List Bool) (x0_3 : Int) (x2 : Int) (x3 : ByteArray) (x4 : ByteArray) (x11_0 : Bool) (x11_1 : List ByteArray) (x11_2 : List ByteArray) (x11_3 : List Int) (x15 : Int) (x16 : ByteArray) (x17 : ByteArray) (x97 : List Int) (x98 : Int) (x99 : Int) : Option ((Bool × Unit) × ((Int × (List (Bool × (List ByteArray) × (List ByteArray) × (List Int) × Unit)) × (List Bool) × Int × Unit) × Unit × Unit × Unit × Unit × Unit)) := cutF cx 52 23 Try.f52 k ((x0_0, x0_1, x0_2, x0_3, ()), x2, x3, x4, (x11_0, x11_1, x11_2, x11_3, ()), x15, x16, x17, x97, x98, x99, ())
/-! (loop.example/jetton/impl.Node).zero -/
noncomputable def F53 (k : Nat) (a0_0 : Bool) (a0_1 : List ByteArray) (a0_2 : List ByteArray) (a0_3 : List Int) : Option ((Bool × Unit) × ((Unit × Unit × Unit × Unit × Unit) × Unit)) := callF cx k 53 ((a0_0, a0_1, a0_2, a0_3, ()), ())
/-! loop.example/jetton/laws.szStringS -/
noncomputable def F56 (k : Nat) (a0 : List ByteArray) (a1 : Int) : Option ((Int × Unit) × (Unit × Unit × Unit)) := callF cx k 56 (a0, a1, ())
noncomputable def F56c5 (k : Nat) (x0 : List ByteArray) (x1 : Int) (x5 : Int) : Option ((Int × Unit) × (Unit × Unit × Unit)) := cutF cx 56 5 Try.f56 k (x0, x1, x5, ())
/-! loop.example/jetton/laws.szIntS -/
noncomputable def F57 (k : Nat) (a0 : List Int) (a1 : Int) : Option ((Int × Unit) × (Unit × Unit × Unit)) := callF cx k 57 (a0, a1, ())
/-! loop.example/jetton/spec.l9NodeOk -/
noncomputable def F58 (k : Nat) (a0_0 : Bool) (a0_1 : List ByteArray) (a0_2 : List ByteArray) (a0_3 : List Int) : Option ((Bool × Unit) × ((Unit × Unit × Unit × Unit × Unit) × Unit)) := callF cx k 58 ((a0_0, a0_1, a0_2, a0_3, ()), ())
noncomputable def F58c5 (k : Nat) (x1_0 : Bool) (x1_1 : List ByteArray) (x1_2 : List ByteArray) (x1_3 : List Int) (x3 : Int) : Option ((Bool × Unit) × ((Unit × Unit × Unit × Unit × Unit) × Unit)) := cutF cx 58 5 Try.f58 k ((x1_0, x1_1, x1_2, x1_3, ()), x3, ())
noncomputable def F58c11 (k : Nat) (x1_0 : Bool) (x1_1 : List ByteArray) (x1_2 : List ByteArray) (x1_3 : List Int) (x4 : Int) : Option ((Bool × Unit) × ((Unit × Unit × Unit × Unit × Unit) × Unit)) := cutF cx 58 11 Try.f58 k ((x1_0, x1_1, x1_2, x1_3, ()), x4, ())
/-! loop.example/jetton/spec.l9Within -/
noncomputable def F59 (k : Nat) (a0 : List ByteArray) (a1 : ByteArray) (a2 : ByteArray) : Option ((Bool × Unit) × (Unit × Unit × Unit × Unit)) := callF cx k 59 (a0, a1, a2, ())
noncomputable def F59c2 (k : Nat) (x0 : List ByteArray) (x1 : ByteArray) (x2 : ByteArray) (x7 : Int) : Option ((Bool × Unit) × (Unit × Unit × Unit × Unit)) := cutF cx 59 2 Try.f59 k (x0, x1, x2, x7, ())
/-! loop.example/jetton/laws.eqStringS -/
noncomputable def F62 (k : Nat) (a0 : List ByteArray) (a1 : List ByteArray) : Option ((Bool × Unit) × (Unit × Unit × Unit)) := callF cx k 62 (a0, a1, ())
noncomputable def F62c4 (k : Nat) (x0 : List ByteArray) (x1 : List ByteArray) (x5 : Int) : Option ((Bool × Unit) × (Unit × Unit × Unit)) := cutF cx 62 4 Try.f62 k (x0, x1, x5, ())
/-! loop.example/jetton/laws.eqIntS -/
noncomputable def F63 (k : Nat) (a0 : List Int) (a1 : List Int) : Option ((Bool × Unit) × (Unit × Unit × Unit)) := callF cx k 63 (a0, a1, ())
noncomputable def F63c4 (k : Nat) (x0 : List Int) (x1 : List Int) (x5 : Int) : Option ((Bool × Unit) × (Unit × Unit × Unit)) := cutF cx 63 4 Try.f63 k (x0, x1, x5, ())
/-! (loop.example/jetton/impl.Node).ok -/
noncomputable def F68 (k : Nat) (a0_0 : Bool) (a0_1 : List ByteArray) (a0_2 : List ByteArray) (a0_3 : List Int) : Option ((Bool × Unit) × ((Unit × Unit × Unit × Unit × Unit) × Unit)) := callF cx k 68 ((a0_0, a0_1, a0_2, a0_3, ()), ())
noncomputable def F68c4 (k : Nat) (x1_0 : Bool) (x1_1 : List ByteArray) (x1_2 : List ByteArray) (x1_3 : List Int) (x10 : List ByteArray) (x11 : Int) (x12 : Int) : Option ((Bool × Unit) × ((Unit × Unit × Unit × Unit × Unit) × Unit)) := cutF cx 68 4 Try.f68 k ((x1_0, x1_1, x1_2, x1_3, ()), x10, x11, x12, ())
/-! loop.example/jetton/spec.l9KeysOk -/
noncomputable def F72 (k : Nat) (a0 : List ByteArray) : Option ((Bool × Unit) × (Unit × Unit)) := callF cx k 72 (a0, ())
noncomputable def F72c2 (k : Nat) (x0 : List ByteArray) (x3 : Int) : Option ((Bool × Unit) × (Unit × Unit)) := cutF cx 72 2 Try.f72 k (x0, x3, ())
/-! (loop.example/jetton/impl.Node).ok$1 -/
noncomputable def F81 (k : Nat) (a0 : ByteArray) : Option ((Bool × Unit) × (Unit × Unit)) := callF cx k 81 (a0, ())
/-! (loop.example/jetton/impl.Node).ok$2 -/
noncomputable def F83 (k : Nat) (a0 : Int) : Option ((Bool × Unit) × (Unit × Unit)) := callF cx k 83 (a0, ())
/-! slices.ContainsFunc[[]string,string] -/
noncomputable def F82080 (k : Nat) (a0 : List ByteArray) : Option ((Bool × Unit) × (Unit × Unit × Unit)) := callF cx k 82080 (a0, (()), ())
/-! slices.IndexFunc[[]string,string] -/
noncomputable def F82095 (k : Nat) (a0 : List ByteArray) : Option ((Int × Unit) × (Unit × Unit × Unit)) := callF cx k 82095 (a0, (()), ())
noncomputable def F82095c2 (k : Nat) (x0 : List ByteArray) (x7 : Int) (x8 : Int) : Option ((Int × Unit) × (Unit × Unit × Unit)) := cutF cx 82095 2 Try.f95 k (x0, (()), x7, x8, ())
/-! slices.ContainsFunc[[]int,int] -/
noncomputable def F84082 (k : Nat) (a0 : List Int) : Option ((Bool × Unit) × (Unit × Unit × Unit)) := callF cx k 84082 (a0, (()), ())
/-! slices.IndexFunc[[]int,int] -/
noncomputable def F84096 (k : Nat) (a0 : List Int) : Option ((Int × Unit) × (Unit × Unit × Unit)) := callF cx k 84096 (a0, (()), ())
noncomputable def F84096c2 (k : Nat) (x0 : List Int) (x7 : Int) (x8 : Int) : Option ((Int × Unit) × (Unit × Unit × Unit)) := cutF cx 84096 2 Try.f96 k (x0, (()), x7, x8, ())
theorem F6_eq (k : Nat) (a0_0 : Int) (a0_1 : List (Bool × (List ByteArray) × (List ByteArray) × (List Int) × Unit)) (a1 : Int) : F6 (k + 2) a0_0 a0_1 a1 =
    (F23 k a0_1 a1).bind fun r1 => if (decide (r1.1.1 < (0 : Int))) = true then some (((-1 : Int), ()), (((), (), ()), (), ())) else some ((r1.1.1, ()), (((), (), ()), (), ())) := by kernel_rfl
theorem F7_eq (k : Nat) (a0_0 : Int) (a0_1 : List (Bool × (List ByteArray) × (List ByteArray) × (List Int) × Unit)) (a1 : ByteArray) (a2 : ByteArray) : F7 (k + 2) a0_0 a0_1 a1 a2 =
    (F24 k a0_0 a0_1).bind fun r1 => if (decide (r1.1.1 < (0 : Int))) = true then some ((([] : List (ByteArray × ByteArray × Unit)), ()), (((), (), ()), (), (), ())) else (F25 k a0_0 a0_1 a0_0 a1 a2 ([] : List (ByteArray × ByteArray × Unit))).bind fun r2 => some ((r2.1.1, ()), (((), (), ()), (), (), ())) := by kernel_rfl
theorem F10_eq (k : Nat) (a0 : List (ByteArray × ByteArray × Unit)) (a1 : List (ByteArray × ByteArray × Unit)) : F10 (k + 2) a0 a1 =
    if ((a0.length : Int) != (a1.length : Int)) = true then some ((false, ()), ((), (), ())) else F10c4 k a0 a1 (0 : Int) := by kernel_rfl
theorem F10c4_eq (k : Nat) (x0 : List (ByteArray × ByteArray × Unit)) (x1 : List (ByteArray × ByteArray × Unit)) (x5 : Int) : F10c4 (k + 1) x0 x1 x5 =
    if (decide (x5 < (x0.length : Int))) = true then if (decide (0 ≤ x5)) = true then (x0[x5.toNat]?).bind fun y1 => if (decide (0 ≤ x5)) = true then (x1[x5.toNat]?).bind fun y2 => (F28 k y1.1 y1.2.1 y2.1 y2.2.1).bind fun r3 => if (!r3.1.1) = true then some ((false, ()), ((), (), ())) else F10c4 k x0 x1 (IntKind.i64.wrap (x5 + (1 : Int))) else none else none else some ((true, ()), ((), (), ())) := by kernel_rfl
theorem F11_eq (k : Nat) (a0_0 : Int) (a0_1 : List (Bool × (List ByteArray) × (List ByteArray) × (List Int) × Unit)) (a1_0 : Int) (a1_1 : List (Bool × (List ByteArray) × (List ByteArray) × (List Int) × Unit)) : F11 (k + 2) a0_0 a0_1 a1_0 a1_1 =
    if (a0_0 != a1_0) = true then some ((false, ()), (((), (), ()), ((), (), ()), ())) else (F29 k a0_1 a1_1).bind fun r1 => if (!r1.1.1) = true then some ((false, ()), (((), (), ()), ((), (), ()), ())) else some ((true, ()), (((), (), ()), ((), (), ()), ())) := by kernel_rfl
theorem F13_eq (k : Nat) (a0 : List (ByteArray × ByteArray × Unit)) (a1 : Int) : F13 (k + 2) a0 a1 =
    F13c2 k a0 a1 (0 : Int) := by kernel_rfl
theorem F13c2_eq (k : Nat) (x0 : List (ByteArray × ByteArray × Unit)) (x1 : Int) (x5 : Int) : F13c2 (k + 1) x0 x1 x5 =
    if (decide (x5 < (x0.length : Int))) = true then (F31 k x1).bind fun r1 => if (decide (0 ≤ x5) && decide (x5 < (x0.length : Int))) = true then (x0[x5.toNat]?).bind fun y2 => (F31 k (IntKind.i64.wrap (x1 + (1 : Int)))).bind fun r3 => if (decide (0 ≤ x5) && decide (x5 < ((x0.set x5.toNat (r1.1.1, (y2.2.1, ()))).length : Int))) = true then ((x0.set x5.toNat (r1.1.1, (y2.2.1, ())))[x5.toNat]?).bind fun y4 => F13c2 k ((x0.set x5.toNat (r1.1.1, (y2.2.1, ()))).set x5.toNat (y4.1, (r3.1.1, ()))) (IntKind.i64.wrap ((IntKind.i64.wrap (x1 + (1 : Int))) + (1 : Int))) (IntKind.i64.wrap (x5 + (1 : Int))) else none else none else some ((x1, ()), (x0, (), ())) := by kernel_rfl
theorem F14_eq (k : Nat) (a0 : List (ByteArray × ByteArray × Unit)) (a1 : Int) : F14 (k + 2) a0 a1 =
    F14c2 k a0 a1 (0 : Int) := by kernel_rfl
theorem F14c2_eq (k : Nat) (x0 : List (ByteArray × ByteArray × Unit)) (x1 : Int) (x5 : Int) : F14c2 (k + 1) x0 x1 x5 =
    if (decide (x5 < (x0.length : Int))) = true then if (decide (0 ≤ x5)) = true then (x0[x5.toNat]?).bind fun y1 => (F31 k x1).bind fun r2 => if (!(y1.1.toList == r2.1.1.toList)) = true then some (((-1 : Int), ()), ((), (), ())) else if (decide (0 ≤ x5)) = true then (x0[x5.toNat]?).bind fun y3 => (F31 k (IntKind.i64.wrap (x1 + (1 : Int)))).bind fun r4 => if (!(y3.2.1.toList == r4.1.1.toList)) = true then some (((-1 : Int), ()), ((), (), ())) else F14c2 k x0 (IntKind.i64.wrap ((IntKind.i64.wrap (x1 + (1 : Int))) + (1 : Int))) (IntKind.i64.wrap (x5 + (1 : Int))) else none else none else some ((x1, ()), ((), (), ())) := by kernel_rfl
theorem F18_eq (k : Nat) (a0_0 : Int) (a0_1 : List (Bool × (List ByteArray) × (List ByteArray) × (List Int) × Unit)) : F18 (k + 2) a0_0 a0_1 =
    (F34 k a0_0 a0_1).bind fun r1 => some ((decide (r1.1.1 > (0 : Int)), ()), (((), (), ()), ())) := by kernel_rfl
theorem F23_eq (k : Nat) (a0 : List (Bool × (List ByteArray) × (List ByteArray) × (List Int) × Unit)) (a1 : Int) : F23 (k + 2) a0 a1 =
    if (decide ((IntKind.i64.wrap (a1 - (a0.length : Int))) < (0 : Int))) = true then some (((-1 : Int), ()), ((), (), ())) else F23c5 k a0 (IntKind.i64.wrap (a1 - (a0.length : Int))) (0 : Int) := by kernel_rfl
theorem F23c5_eq (k : Nat) (x0 : List (Bool × (List ByteArray) × (List ByteArray) × (List Int) × Unit)) (x1 : Int) (x5 : Int) : F23c5 (k + 1) x0 x1 x5 =
    if (decide (x5 < (x0.length : Int))) = true then if (decide (0 ≤ x5)) = true then (x0[x5.toNat]?).bind fun y1 => (F38 k y1.1 y1.2.1 y1.2.2.1 y1.2.2.2.1 x1).bind fun r2 => if (decide (r2.1.1 < (0 : Int))) = true then some (((-1 : Int), ()), ((), (), ())) else F23c5 k x0 r2.1.1 (IntKind.i64.wrap (x5 + (1 : Int))) else none else some ((x1, ()), ((), (), ())) := by kernel_rfl
theorem F24_eq (k : Nat) (a0_0 : Int) (a0_1 : List (Bool × (List ByteArray) × (List ByteArray) × (List Int) × Unit)) : F24 (k + 2) a0_0 a0_1 =
    if ((a0_1.length : Int) != (19 : Int)) = true then some (((-1 : Int), ()), (((), (), ()), ())) else (F39 k a0_0 (0 : Int) (18 : Int)).bind fun r1 => if (!r1.1.1) = true then some (((-1 : Int), ()), (((), (), ()), ())) else if (decide (0 ≤ (19 : Int)) && decide ((19 : Int) ≤ (19 : Int)) && decide ((19 : Int) ≤ (140737488355328 : Int))) = true then (F40 k a0_0 a0_1 a0_0 (⟨#[]⟩ : ByteArray) (⟨#[]⟩ : ByteArray) true (List.replicate 19 false)).bind fun r2 => F24c6 k a0_0 a0_1 r2.2.2.2.2.2.2.1 r2.1.1 (0 : Int) else none := by kernel_rfl
theorem F24c6_eq (k : Nat) (x1_0 : Int) (x1_1 : List (Bool × (List ByteArray) × (List ByteArray) × (List Int) × Unit)) (x3 : List Bool) (x4 : Int) (x5 : Int) : F24c6 (k + 1) x1_0 x1_1 x3 x4 x5 =
    if (decide (x5 < (x3.length : Int))) = true then if (decide (0 ≤ x5) && decide (x5 < (x3.length : Int))) = true then (x3[x5.toNat]?).bind fun y3 => if (!y3) = true then if (decide (0 ≤ x5)) = true then (x1_1[x5.toNat]?).bind fun y4 => (F41 k y4.1 y4.2.1 y4.2.2.1 y4.2.2.2.1).bind fun r5 => if (!r5.1.1) = true then some (((-1 : Int), ()), (((), (), ()), ())) else F24c6 k x1_0 x1_1 x3 x4 (IntKind.i64.wrap (x5 + (1 : Int))) else none else F24c6 k x1_0 x1_1 x3 x4 (IntKind.i64.wrap (x5 + (1 : Int))) else none else some ((x4, ()), (((), (), ()), ())) := by kernel_rfl
theorem F25_eq (k : Nat) (a0_0 : Int) (a0_1 : List (Bool × (List ByteArray) × (List ByteArray) × (List Int) × Unit)) (a1 : Int) (a2 : ByteArray) (a3 : ByteArray) (a4 : List (ByteArray × ByteArray × Unit)) : F25 (k + 2) a0_0 a0_1 a1 a2 a3 a4 =
    if (decide (0 ≤ a1)) = true then (a0_1[a1.toNat]?).bind fun y1 => F25c3 k a2 a3 a4 a0_0 a0_1 y1.1 y1.2.1 y1.2.2.1 y1.2.2.2.1 (0 : Int) else none := by kernel_rfl
theorem F25c3_eq (k : Nat) (x2 : ByteArray) (x3 : ByteArray) (x4 : List (ByteArray × ByteArray × Unit)) (x5_0 : Int) (x5_1 : List (Bool × (List ByteArray) × (List ByteArray) × (List Int) × Unit)) (x11_0 : Bool) (x11_1 : List ByteArray) (x11_2 : List ByteArray) (x11_3 : List Int) (x12 : Int) : F25c3 (k + 1) x2 x3 x4 x5_0 x5_1 x11_0 x11_1 x11_2 x11_3 x12 =
    if (decide (x12 < (x11_3.length : Int))) = true then if (decide (0 ≤ x12)) = true then (x11_3[x12.toNat]?).bind fun y2 => (F25 k x5_0 x5_1 y2 x2 x3 x4).bind fun r3 => F25c3 k x2 x3 r3.1.1 x5_0 x5_1 x11_0 x11_1 x11_2 x11_3 (IntKind.i64.wrap (x12 + (1 : Int))) else none else F25c7 k x2 x3 x4 x11_0 x11_1 x11_2 x11_3 (0 : Int) := by kernel_rfl
theorem F25c7_eq (k : Nat) (x2 : ByteArray) (x3 : ByteArray) (x4 : List (ByteArray × ByteArray × Unit)) (x11_0 : Bool) (x11_1 : List ByteArray) (x11_2 : List ByteArray) (x11_3 : List Int) (x13 : Int) : F25c7 (k + 1) x2 x3 x4 x11_0 x11_1 x11_2 x11_3 x13 =
    if (decide (x13 < (x11_2.length : Int))) = true then if (decide (0 ≤ x13)) = true then (x11_1[x13.toNat]?).bind fun y4 => if (!(Op.bytesLess y4.toList x2.toList)) = true then if (x3.toList == (⟨#[]⟩ : ByteArray).toList) = true then if (decide (0 ≤ x13)) = true then (x11_1[x13.toNat]?).bind fun y5 => if (decide (0 ≤ x13)) = true then (x11_2[x13.toNat]?).bind fun y6 => if (decide (x4.length + [(y5, (y6, ()))].length ≤ 4398046511104)) = true then F25c8 k x2 x3 (x4 ++ [(y5, (y6, ()))]) x11_0 x11_1 x11_2 x11_3 x13 else none else none else none else if (decide (0 ≤ x13)) = true then (x11_1[x13.toNat]?).bind fun y7 => if (Op.bytesLess y7.toList x3.toList) = true then if (decide (0 ≤ x13)) = true then (x11_1[x13.toNat]?).bind fun y8 => if (decide (0 ≤ x13)) = true then (x11_2[x13.toNat]?).bind fun y9 => if (decide (x4.length + [(y8, (y9, ()))].length ≤ 4398046511104)) = true then F25c8 k x2 x3 (x4 ++ [(y8, (y9, ()))]) x11_0 x11_1 x11_2 x11_3 x13 else none else none else none else F25c8 k x2 x3 x4 x11_0 x11_1 x11_2 x11_3 x13 else none else F25c8 k x2 x3 x4 x11_0 x11_1 x11_2 x11_3 x13 else none else some ((x4, ()), (((), (), ()), (), (), (), (), ())) := by kernel_rfl
theorem F25c8_eq (k : Nat) (x2 : ByteArray) (x3 : ByteArray) (x4 : List (ByteArray × ByteArray × Unit)) (x11_0 : Bool) (x11_1 : List ByteArray) (x11_2 : List ByteArray) (x11_3 : List Int) (x13 : Int) : F25c8 (k + 1) x2 x3 x4 x11_0 x11_1 x11_2 x11_3 x13 =
    F25c7 k x2 x3 x4 x11_0 x11_1 x11_2 x11_3 (IntKind.i64.wrap (x13 + (1 : Int))) := by kernel_rfl
theorem F28_eq (k : Nat) (a0_0 : ByteArray) (a0_1 : ByteArray) (a1_0 : ByteArray) (a1_1 : ByteArray) : F28 (k + 2) a0_0 a0_1 a1_0 a1_1 =
    if (!(a0_0.toList == a1_0.toList)) = true then some ((false, ()), (((), (), ()), ((), (), ()), ())) else if (!(a0_1.toList == a1_1.toList)) = true then some ((false, ()), (((), (), ()), ((), (), ()), ())) else some ((true, ()), (((), (), ()), ((), (), ()), ())) := by kernel_rfl
theorem F29_eq (k : Nat) (a0 : List (Bool × (List ByteArray) × (List ByteArray) × (List Int) × Unit)) (a1 : List (Bool × (List ByteArray) × (List ByteArray) × (List Int) × Unit)) : F29 (k + 2) a0 a1 =
    if ((a0.length : Int) != (a1.length : Int)) = true then some ((false, ()), ((), (), ())) else F29c4 k a0 a1 (0 : Int) := by kernel_rfl
theorem F29c4_eq (k : Nat) (x0 : List (Bool × (List ByteArray) × (List ByteArray) × (List Int) × Unit)) (x1 : List (Bool × (List ByteArray) × (List ByteArray) × (List Int) × Unit)) (x5 : Int) : F29c4 (k + 1) x0 x1 x5 =
    if (decide (x5 < (x0.length : Int))) = true then if (decide (0 ≤ x5)) = true then (x0[x5.toNat]?).bind fun y1 => if (decide (0 ≤ x5)) = true then (x1[x5.toNat]?).bind fun y2 => (F45 k y1.1 y1.2.1 y1.2.2.1 y1.2.2.2.1 y2.1 y2.2.1 y2.2.2.1 y2.2.2.2.1).bind fun r3 => if (!r3.1.1) = true then some ((false, ()), ((), (), ())) else F29c4 k x0 x1 (IntKind.i64.wrap (x5 + (1 : Int))) else none else none else some ((true, ()), ((), (), ())) := by kernel_rfl
theorem F31_eq (k : Nat) (a0 : Int) : F31 (k + 2) a0 =
    if (decide (a0 ≤ (0 : Int))) = true then some (((⟨#[109, 48]⟩ : ByteArray), ()), ((), ())) else F31c4 k a0 (⟨#[]⟩ : ByteArray) := by kernel_rfl
theorem F31c4_eq (k : Nat) (x0 : Int) (x3 : ByteArray) : F31c4 (k + 1) x0 x3 =
    if (decide (x0 > (0 : Int))) = true then if (Nat.ble ((bytesOf [(IntKind.u8.wrap (IntKind.i64.wrap ((48 : Int) + (x0.tmod (10 : Int)))))]).size + x3.size) 9223372036854775807) = true then F31c4 k (IntKind.i64.wrap (x0.tdiv (10 : Int))) ((bytesOf [(IntKind.u8.wrap (IntKind.i64.wrap ((48 : Int) + (x0.tmod (10 : Int)))))]) ++ x3) else none else if (Nat.ble ((⟨#[109]⟩ : ByteArray).size + x3.size) 9223372036854775807) = true then some ((((⟨#[109]⟩ : ByteArray) ++ x3), ()), ((), ())) else none := by kernel_rfl
theorem F34_eq (k : Nat) (a0_0 : Int) (a0_1 : List (Bool × (List ByteArray) × (List ByteArray) × (List Int) × Unit)) : F34 (k + 2) a0_0 a0_1 =
    if ((a0_1.length : Int) != (19 : Int)) = true then some (((0 : Int), ()), (((), (), ()), ())) else (F51 k a0_0 (0 : Int) (18 : Int)).bind fun r1 => if (!r1.1.1) = true then some (((0 : Int), ()), (((), (), ()), ())) else if (decide (0 ≤ (19 : Int)) && decide ((19 : Int) ≤ (19 : Int)) && decide ((19 : Int) ≤ (140737488355328 : Int))) = true then (F52 k a0_0 a0_1 (List.replicate 19 false) (0 : Int) a0_0 (1 : Int) (⟨#[]⟩ : ByteArray) (⟨#[]⟩ : ByteArray)).bind fun r2 => if (!r2.1.1) = true then some (((0 : Int), ()), (((), (), ()), ())) else F34c7 k r2.2.1.1 r2.2.1.2.1 r2.2.1.2.2.1 r2.2.1.2.2.2.1 a0_1 (a0_1.length : Int) (0 : Int) else none := by kernel_rfl
theorem F34c7_eq (k : Nat) (x3_0 : Int) (x3_1 : List (Bool × (List ByteArray) × (List ByteArray) × (List Int) × Unit)) (x3_2 : List Bool) (x3_3 : Int) (x26 : List (Bool × (List ByteArray) × (List ByteArray) × (List Int) × Unit)) (x27 : Int) (x28 : Int) : F34c7 (k + 1) x3_0 x3_1 x3_2 x3_3 x26 x27 x28 =
    if (decide (x28 < x27)) = true then if (decide (0 ≤ x28)) = true then (x26[x28.toNat]?).bind fun y3 => if (decide (0 ≤ x28) && decide (x28 < (x3_2.length : Int))) = true then (x3_2[x28.toNat]?).bind fun y4 => if (!y4) = true then (F53 k y3.1 y3.2.1 y3.2.2.1 y3.2.2.2.1).bind fun r5 => if (!r5.1.1) = true then some (((0 : Int), ()), (((), (), ()), ())) else F34c7 k x3_0 x3_1 x3_2 x3_3 x26 x27 (IntKind.i64.wrap (x28 + (1 : Int))) else F34c7 k x3_0 x3_1 x3_2 x3_3 x26 x27 (IntKind.i64.wrap (x28 + (1 : Int))) else none else none else some ((x3_3, ()), (((), (), ()), ())) := by kernel_rfl
theorem F38_eq (k : Nat) (a0_0 : Bool) (a0_1 : List ByteArray) (a0_2 : List ByteArray) (a0_3 : List Int) (a1 : Int) : F38 (k + 2) a0_0 a0_1 a0_2 a0_3 a1 =
    (F56 k a0_1 a1).bind fun r1 => if (decide (r1.1.1 < (0 : Int))) = true then some (((-1 : Int), ()), (((), (), (), (), ()), (), ())) else (F56 k a0_2 r1.1.1).bind fun r2 => if (decide (r2.1.1 < (0 : Int))) = true then some (((-1 : Int), ()), (((), (), (), (), ()), (), ())) else (F57 k a0_3 r2.1.1).bind fun r3 => if (decide (r3.1.1 < (0 : Int))) = true then some (((-1 : Int), ()), (((), (), (), (), ()), (), ())) else some ((r3.1.1, ()), (((), (), (), (), ()), (), ())) := by kernel_rfl
theorem F39_eq (k : Nat) (a0 : Int) (a1 : Int) (a2 : Int) : F39 (k + 2) a0 a1 a2 =
    if (decide (a0 ≥ a1)) = true then some ((decide (a0 ≤ a2), ()), ((), (), (), ())) else some ((false, ()), ((), (), (), ())) := by kernel_rfl
theorem F40_eq (k : Nat) (a0_0 : Int) (a0_1 : List (Bool × (List ByteArray) × (List ByteArray) × (List Int) × Unit)) (a1 : Int) (a2 : ByteArray) (a3 : ByteArray) (a4 : Bool) (a5 : List Bool) : F40 (k + 2) a0_0 a0_1 a1 a2 a3 a4 a5 =
    if (decide (0 ≤ a1) && decide (a1 < (a5.length : Int))) = true then (a5[a1.toNat]?).bind fun y1 => if y1 = true then some (((-1 : Int), ()), (((), (), ()), (), (), (), (), a5, ())) else if (decide (0 ≤ a1) && decide (a1 < (a5.length : Int))) = true then (a5[a1.toNat]?).bind fun y2 => if (decide (0 ≤ a1)) = true then (a0_1[a1.toNat]?).bind fun y3 => (F58 k y3.1 y3.2.1 y3.2.2.1 y3.2.2.2.1).bind fun r4 => if (!r4.1.1) = true then some (((-1 : Int), ()), (((), (), ()), (), (), (), (), a5.set a1.toNat true, ())) else (F59 k y3.2.1 a2 a3).bind fun r5 => if (!r5.1.1) = true then some (((-1 : Int), ()), (((), (), ()), (), (), (), (), a5.set a1.toNat true, ())) else if (!a4) = true then if (decide ((y3.2.1.length : Int) < (2 : Int))) = true then some (((-1 : Int), ()), (((), (), ()), (), (), (), (), a5.set a1.toNat true, ())) else if y3.1 = true then some (((1 : Int), ()), (((), (), ()), (), (), (), (), a5.set a1.toNat true, ())) else F40c11 k a2 a3 (a5.set a1.toNat true) a0_0 a0_1 y3.1 y3.2.1 y3.2.2.1 y3.2.2.2.1 (0 : Int) (0 : Int) else if y3.1 = true then some (((1 : Int), ()), (((), (), ()), (), (), (), (), a5.set a1.toNat true, ())) else F40c11 k a2 a3 (a5.set a1.toNat true) a0_0 a0_1 y3.1 y3.2.1 y3.2.2.1 y3.2.2.2.1 (0 : Int) (0 : Int) else none else none else none := by kernel_rfl
theorem F40c11_eq (k : Nat) (x2 : ByteArray) (x3 : ByteArray) (x5 : List Bool) (x6_0 : Int) (x6_1 : List (Bool × (List ByteArray) × (List ByteArray) × (List Int) × Unit)) (x13_0 : Bool) (x13_1 : List ByteArray) (x13_2 : List ByteArray) (x13_3 : List Int) (x14 : Int) (x15 : Int) : F40c11 (k + 1) x2 x3 x5 x6_0 x6_1 x13_0 x13_1 x13_2 x13_3 x14 x15 =
    if (decide (x15 < (x13_3.length : Int))) = true then if (decide (x15 > (0 : Int))) = true then if (decide (0 ≤ (IntKind.i64.wrap (x15 - (1 : Int))))) = true then (x13_1[(IntKind.i64.wrap (x15 - (1 : Int))).toNat]?).bind fun y6 => F40c17 k x2 x3 x5 x6_0 x6_1 x13_0 x13_1 x13_2 x13_3 x14 x15 y6 x3 else none else F40c17 k x2 x3 x5 x6_0 x6_1 x13_0 x13_1 x13_2 x13_3 x14 x15 x2 x3 else some (((IntKind.i64.wrap (x14 + (1 : Int))), ()), (((), (), ()), (), (), (), (), x5, ())) := by kernel_rfl
theorem F40c17_eq (k : Nat) (x2 : ByteArray) (x3 : ByteArray) (x5 : List Bool) (x6_0 : Int) (x6_1 : List (Bool × (List ByteArray) × (List ByteArray) × (List Int) × Unit)) (x13_0 : Bool) (x13_1 : List ByteArray) (x13_2 : List ByteArray) (x13_3 : List Int) (x14 : Int) (x15 : Int) (x16 : ByteArray) (x17 : ByteArray) : F40c17 (k + 1) x2 x3 x5 x6_0 x6_1 x13_0 x13_1 x13_2 x13_3 x14 x15 x16 x17 =
    if (decide (x15 < (x13_1.length : Int))) = true then if (decide (0 ≤ x15)) = true then (x13_1[x15.toNat]?).bind fun y7 => F40c19 k x2 x3 x5 x6_0 x6_1 x13_0 x13_1 x13_2 x13_3 x14 x15 x16 y7 else none else F40c19 k x2 x3 x5 x6_0 x6_1 x13_0 x13_1 x13_2 x13_3 x14 x15 x16 x17 := by kernel_rfl
theorem F40c19_eq (k : Nat) (x2 : ByteArray) (x3 : ByteArray) (x5 : List Bool) (x6_0 : Int) (x6_1 : List (Bool × (List ByteArray) × (List ByteArray) × (List Int) × Unit)) (x13_0 : Bool) (x13_1 : List ByteArray) (x13_2 : List ByteArray) (x13_3 : List Int) (x14 : Int) (x15 : Int) (x16 : ByteArray) (x17 : ByteArray) : F40c19 (k + 1) x2 x3 x5 x6_0 x6_1 x13_0 x13_1 x13_2 x13_3 x14 x15 x16 x17 =
    if (decide (0 ≤ x15)) = true then (x13_3[x15.toNat]?).bind fun y8 => (F40 k x6_0 x6_1 y8 x16 x17 false x5).bind fun r9 => if (decide (r9.1.1 < (0 : Int))) = true then some (((-1 : Int), ()), (((), (), ()), (), (), (), (), r9.2.2.2.2.2.2.1, ())) else if (decide (x14 > (0 : Int))) = true then if (r9.1.1 != x14) = true then some (((-1 : Int), ()), (((), (), ()), (), (), (), (), r9.2.2.2.2.2.2.1, ())) else F40c11 k x2 x3 r9.2.2.2.2.2.2.1 x6_0 x6_1 x13_0 x13_1 x13_2 x13_3 r9.1.1 (IntKind.i64.wrap (x15 + (1 : Int))) else F40c11 k x2 x3 r9.2.2.2.2.2.2.1 x6_0 x6_1 x13_0 x13_1 x13_2 x13_3 r9.1.1 (IntKind.i64.wrap (x15 + (1 : Int))) else none := by kernel_rfl
theorem F41_eq (k : Nat) (a0_0 : Bool) (a0_1 : List ByteArray) (a0_2 : List ByteArray) (a0_3 : List Int) : F41 (k + 2) a0_0 a0_1 a0_2 a0_3 =
    if (!a0_0) = true then if ((a0_1.length : Int) == (0 : Int)) = true then if ((a0_2.length : Int) == (0 : Int)) = true then some ((((a0_3.length : Int) == (0 : Int)), ()), (((), (), (), (), ()), ())) else some ((false, ()), (((), (), (), (), ()), ())) else some ((false, ()), (((), (), (), (), ()), ())) else some ((false, ()), (((), (), (), (), ()), ())) := by kernel_rfl
theorem F45_eq (k : Nat) (a0_0 : Bool) (a0_1 : List ByteArray) (a0_2 : List ByteArray) (a0_3 : List Int) (a1_0 : Bool) (a1_1 : List ByteArray) (a1_2 : List ByteArray) (a1_3 : List Int) : F45 (k + 2) a0_0 a0_1 a0_2 a0_3 a1_0 a1_1 a1_2 a1_3 =
    if (!(a0_0 == a1_0)) = true then some ((false, ()), (((), (), (), (), ()), ((), (), (), (), ()), ())) else (F62 k a0_1 a1_1).bind fun r1 => if (!r1.1.1) = true then some ((false, ()), (((), (), (), (), ()), ((), (), (), (), ()), ())) else (F62 k a0_2 a1_2).bind fun r2 => if (!r2.1.1) = true then some ((false, ()), (((), (), (), (), ()), ((), (), (), (), ()), ())) else (F63 k a0_3 a1_3).bind fun r3 => if (!r3.1.1) = true then some ((false, ()), (((), (), (), (), ()), ((), (), (), (), ()), ())) else some ((true, ()), (((), (), (), (), ()), ((), (), (), (), ()), ())) := by kernel_rfl
theorem F51_eq (k : Nat) (a0 : Int) (a1 : Int) (a2 : Int) : F51 (k + 2) a0 a1 a2 =
    if (decide (a0 ≥ a1)) = true then some ((decide (a0 ≤ a2), ()), ((), (), (), ())) else some ((false, ()), ((), (), (), ())) := by kernel_rfl
theorem F52_eq (k : Nat) (a0_0 : Int) (a0_1 : List (Bool × (List ByteArray) × (List ByteArray) × (List Int) × Unit)) (a0_2 : List Bool) (a0_3 : Int) (a1 : Int) (a2 : Int) (a3 : ByteArray) (a4 : ByteArray) : F52 (k + 2) a0_0 a0_1 a0_2 a0_3 a1 a2 a3 a4 =
    if (decide (0 ≤ a1)) = true then (a0_1[a1.toNat]?).bind fun y1 => if (decide (0 ≤ a1) && decide (a1 < (a0_2.length : Int))) = true then (a0_2[a1.toNat]?).bind fun y2 => if y2 = true then some ((false, ()), ((a0_0, a0_1, a0_2, a0_3, ()), (), (), (), (), ())) else (F68 k y1.1 y1.2.1 y1.2.2.1 y1.2.2.2.1).bind fun r3 => if (!r3.1.1) = true then some ((false, ()), ((a0_0, a0_1, a0_2, a0_3, ()), (), (), (), (), ())) else if (a1 != a0_0) = true then if (decide ((y1.2.1.length : Int) < (2 : Int))) = true then some ((false, ()), ((a0_0, a0_1, a0_2, a0_3, ()), (), (), (), (), ())) else if (decide (0 ≤ a1) && decide (a1 < (a0_2.length : Int))) = true then (a0_2[a1.toNat]?).bind fun y4 => F52c6 k a0_0 a0_1 (a0_2.set a1.toNat true) a0_3 a2 a3 a4 y1.1 y1.2.1 y1.2.2.1 y1.2.2.2.1 y1.2.1 (y1.2.1.length : Int) (0 : Int) else none else if (decide (0 ≤ a1) && decide (a1 < (a0_2.length : Int))) = true then (a0_2[a1.toNat]?).bind fun y5 => F52c6 k a0_0 a0_1 (a0_2.set a1.toNat true) a0_3 a2 a3 a4 y1.1 y1.2.1 y1.2.2.1 y1.2.2.2.1 y1.2.1 (y1.2.1.length : Int) (0 : Int) else none else none else none := by kernel_rfl
theorem F52c6_eq (k : Nat) (x0_0 : Int) (x0_1 : List (Bool × (List ByteArray) × (List ByteArray) × (List Int) × Unit)) (x0_2 : List Bool) (x0_3 : Int) (x2 : Int) (x3 : ByteArray) (x4 : ByteArray) (x11_0 : Bool) (x11_1 : List ByteArray) (x11_2 : List ByteArray) (x11_3 : List Int) (x60 : List ByteArray) (x61 : Int) (x62 : Int) : F52c6 (k + 1) x0_0 x0_1 x0_2 x0_3 x2 x3 x4 x11_0 x11_1 x11_2 x11_3 x60 x61 x62 =
    if (decide (x62 < x61)) = true then if (decide (0 ≤ x62)) = true then (x60[x62.toNat]?).bind fun y6 => if (Op.bytesLess y6.toList x3.toList) = true then some ((false, ()), ((x0_0, x0_1, x0_2, x0_3, ()), (), (), (), (), ())) else if (!(x4.toList == (⟨#[]⟩ : ByteArray).toList)) = true then if (!(Op.bytesLess y6.toList x4.toList)) = true then some ((false, ()), ((x0_0, x0_1, x0_2, x0_3, ()), (), (), (), (), ())) else F52c6 k x0_0 x0_1 x0_2 x0_3 x2 x3 x4 x11_0 x11_1 x11_2 x11_3 x60 x61 (IntKind.i64.wrap (x62 + (1 : Int))) else F52c6 k x0_0 x0_1 x0_2 x0_3 x2 x3 x4 x11_0 x11_1 x11_2 x11_3 x60 x61 (IntKind.i64.wrap (x62 + (1 : Int))) else none else if x11_0 = true then if (x0_3 == (0 : Int)) = true then F52c14 k x0_0 x0_1 x0_2 x2 x2 else F52c14 k x0_0 x0_1 x0_2 x0_3 x2 else F52c16 k x0_0 x0_1 x0_2 x0_3 x2 x3 x4 x11_0 x11_1 x11_2 x11_3 x11_3 (x11_3.length : Int) (0 : Int) := by kernel_rfl
theorem F52c14_eq (k : Nat) (x0_0 : Int) (x0_1 : List (Bool × (List ByteArray) × (List ByteArray) × (List Int) × Unit)) (x0_2 : List Bool) (x0_3 : Int) (x2 : Int) : F52c14 (k + 1) x0_0 x0_1 x0_2 x0_3 x2 =
    some (((x0_3 == x2), ()), ((x0_0, x0_1, x0_2, x0_3, ()), (), (), (), (), ())) := by kernel_rfl
theorem F52c16_eq (k : Nat) (x0_0 : Int) (x0_1 : List (Bool × (List ByteArray) × (List ByteArray) × (List Int) × Unit)) (x0_2 : List Bool) (x0_3 : Int) (x2 : Int) (x3 : ByteArray) (x4 : ByteArray) (x11_0 : Bool) (x11_1 : List ByteArray) (x11_2 : List ByteArray) (x11_3 : List Int) (x97 : List Int) (x98 : Int) (x99 : Int) : F52c16 (k + 1) x0_0 x0_1 x0_2 x0_3 x2 x3 x4 x11_0 x11_1 x11_2 x11_3 x97 x98 x99 =
    if (decide (x99 < x98)) = true then if (decide (0 ≤ x99)) = true then (x97[x99.toNat]?).bind fun y7 => if (decide (x99 > (0 : Int))) = true then if (decide (0 ≤ (IntKind.i64.wrap (x99 - (1 : Int))))) = true then (x11_1[(IntKind.i64.wrap (x99 - (1 : Int))).toNat]?).bind fun y8 => F52c21 k x0_0 x0_1 x0_2 x0_3 x2 x3 x4 x11_0 x11_1 x11_2 x11_3 x99 y7 y8 x4 x97 x98 x99 else none else F52c21 k x0_0 x0_1 x0_2 x0_3 x2 x3 x4 x11_0 x11_1 x11_2 x11_3 x99 y7 x3 x4 x97 x98 x99 else none else some ((true, ()), ((x0_0, x0_1, x0_2, x0_3, ()), (), (), (), (), ())) := by kernel_rfl
theorem F52c21_eq (k : Nat) (x0_0 : Int) (x0_1 : List (Bool × (List ByteArray) × (List ByteArray) × (List Int) × Unit)) (x0_2 : List Bool) (x0_3 : Int) (x2 : Int) (x3 : ByteArray) (x4 : ByteArray) (x11_0 : Bool) (x11_1 : List ByteArray) (x11_2 : List ByteArray) (x11_3 : List Int) (x14 : Int) (x15 : Int) (x16 : ByteArray) (x17 : ByteArray) (x97 : List Int) (x98 : Int) (x99 : Int) : F52c21 (k + 1) x0_0 x0_1 x0_2 x0_3 x2 x3 x4 x11_0 x11_1 x11_2 x11_3 x14 x15 x16 x17 x97 x98 x99 =
    if (decide (x14 < (x11_1.length : Int))) = true then if (decide (0 ≤ x14)) = true then (x11_1[x14.toNat]?).bind fun y9 => F52c23 k x0_0 x0_1 x0_2 x0_3 x2 x3 x4 x11_0 x11_1 x11_2 x11_3 x15 x16 y9 x97 x98 x99 else none else F52c23 k x0_0 x0_1 x0_2 x0_3 x2 x3 x4 x11_0 x11_1 x11_2 x11_3 x15 x16 x17 x97 x98 x99 := by kernel_rfl
theorem F52c23_eq (k : Nat) (x0_0 : Int) (x0_1 : List (Bool × (List ByteArray) × (List ByteArray) × (List Int) × Unit)) (x0_2 : List Bool) (x0_3 : Int) (x2 : Int) (x3 : ByteArray) (x4 : ByteArray) (x11_0 : Bool) (x11_1 : List ByteArray) (x11_2 : List ByteArray) (x11_3 : List Int) (x15 : Int) (x16 : ByteArray) (x17 : ByteArray) (x97 : List Int) (x98 : Int) (x99 : Int) : F52c23 (k + 1) x0_0 x0_1 x0_2 x0_3 x2 x3 x4 x11_0 x11_1 x11_2 x11_3 x15 x16 x17 x97 x98 x99 =
    (F52 k x0_0 x0_1 x0_2 x0_3 x15 (IntKind.i64.wrap (x2 + (1 : Int))) x16 x17).bind fun r10 => if (!r10.1.1) = true then some ((false, ()), ((r10.2.1.1, r10.2.1.2.1, r10.2.1.2.2.1, r10.2.1.2.2.2.1, ()), (), (), (), (), ())) else F52c16 k r10.2.1.1 r10.2.1.2.1 r10.2.1.2.2.1 r10.2.1.2.2.2.1 x2 x3 x4 x11_0 x11_1 x11_2 x11_3 x97 x98 (IntKind.i64.wrap (x99 + (1 : Int))) := by kernel_rfl
theorem F53_eq (k : Nat) (a0_0 : Bool) (a0_1 : List ByteArray) (a0_2 : List ByteArray) (a0_3 : List Int) : F53 (k + 2) a0_0 a0_1 a0_2 a0_3 =
    if (!a0_0) = true then if ((a0_1.length : Int) == (0 : Int)) = true then if ((a0_2.length : Int) == (0 : Int)) = true then some ((((a0_3.length : Int) == (0 : Int)), ()), (((), (), (), (), ()), ())) else some ((false, ()), (((), (), (), (), ()), ())) else some ((false, ()), (((), (), (), (), ()), ())) else some ((false, ()), (((), (), (), (), ()), ())) := by kernel_rfl
theorem F56_eq (k : Nat) (a0 : List ByteArray) (a1 : Int) : F56 (k + 2) a0 a1 =
    if (decide ((IntKind.i64.wrap (a1 - (a0.length : Int))) < (0 : Int))) = true then some (((-1 : Int), ()), ((), (), ())) else F56c5 k a0 (IntKind.i64.wrap (a1 - (a0.length : Int))) (0 : Int) := by kernel_rfl
theorem F56c5_eq (k : Nat) (x0 : List ByteArray) (x1 : Int) (x5 : Int) : F56c5 (k + 1) x0 x1 x5 =
    if (decide (x5 < (x0.length : Int))) = true then if (decide (0 ≤ x5)) = true then (x0[x5.toNat]?).bind fun y1 => if (decide ((IntKind.i64.wrap (x1 - (y1.size : Int))) < (0 : Int))) = true then some (((-1 : Int), ()), ((), (), ())) else F56c5 k x0 (IntKind.i64.wrap (x1 - (y1.size : Int))) (IntKind.i64.wrap (x5 + (1 : Int))) else none else some ((x1, ()), ((), (), ())) := by kernel_rfl
theorem F57_eq (k : Nat) (a0 : List Int) (a1 : Int) : F57 (k + 2) a0 a1 =
    if (decide ((IntKind.i64.wrap (a1 - (a0.length : Int))) < (0 : Int))) = true then some (((-1 : Int), ()), ((), (), ())) else some (((IntKind.i64.wrap (a1 - (a0.length : Int))), ()), ((), (), ())) := by kernel_rfl
theorem F58_eq (k : Nat) (a0_0 : Bool) (a0_1 : List ByteArray) (a0_2 : List ByteArray) (a0_3 : List Int) : F58 (k + 2) a0_0 a0_1 a0_2 a0_3 =
    (F72 k a0_1).bind fun r1 => if (!r1.1.1) = true then some ((false, ()), (((), (), (), (), ()), ())) else if a0_0 = true then F58c5 k a0_0 a0_1 a0_2 a0_3 (0 : Int) else F58c11 k a0_0 a0_1 a0_2 a0_3 (0 : Int) := by kernel_rfl
theorem F58c5_eq (k : Nat) (x1_0 : Bool) (x1_1 : List ByteArray) (x1_2 : List ByteArray) (x1_3 : List Int) (x3 : Int) : F58c5 (k + 1) x1_0 x1_1 x1_2 x1_3 x3 =
    if (decide (x3 < (x1_2.length : Int))) = true then if (decide (0 ≤ x3)) = true then (x1_2[x3.toNat]?).bind fun y2 => if (decide ((y2.size : Int) > (140 : Int))) = true then some ((false, ()), (((), (), (), (), ()), ())) else F58c5 k x1_0 x1_1 x1_2 x1_3 (IntKind.i64.wrap (x3 + (1 : Int))) else none else if ((x1_2.length : Int) == (x1_1.length : Int)) = true then some ((((x1_3.length : Int) == (0 : Int)), ()), (((), (), (), (), ()), ())) else some ((false, ()), (((), (), (), (), ()), ())) := by kernel_rfl
theorem F58c11_eq (k : Nat) (x1_0 : Bool) (x1_1 : List ByteArray) (x1_2 : List ByteArray) (x1_3 : List Int) (x4 : Int) : F58c11 (k + 1) x1_0 x1_1 x1_2 x1_3 x4 =
    if (decide (x4 < (x1_3.length : Int))) = true then if (decide (0 ≤ x4)) = true then (x1_3[x4.toNat]?).bind fun y3 => (F39 k y3 (0 : Int) (18 : Int)).bind fun r4 => if (!r4.1.1) = true then some ((false, ()), (((), (), (), (), ()), ())) else F58c11 k x1_0 x1_1 x1_2 x1_3 (IntKind.i64.wrap (x4 + (1 : Int))) else none else if ((x1_2.length : Int) == (0 : Int)) = true then if (decide ((x1_1.length : Int) > (0 : Int))) = true then some ((((x1_3.length : Int) == (IntKind.i64.wrap ((x1_1.length : Int) + (1 : Int)))), ()), (((), (), (), (), ()), ())) else some ((false, ()), (((), (), (), (), ()), ())) else some ((false, ()), (((), (), (), (), ()), ())) := by kernel_rfl
theorem F59_eq (k : Nat) (a0 : List ByteArray) (a1 : ByteArray) (a2 : ByteArray) : F59 (k + 2) a0 a1 a2 =
    F59c2 k a0 a1 a2 (0 : Int) := by kernel_rfl
theorem F59c2_eq (k : Nat) (x0 : List ByteArray) (x1 : ByteArray) (x2 : ByteArray) (x7 : Int) : F59c2 (k + 1) x0 x1 x2 x7 =
    if (decide (x7 < (x0.length : Int))) = true then if (decide (0 ≤ x7)) = true then (x0[x7.toNat]?).bind fun y1 => if (Op.bytesLess y1.toList x1.toList) = true then some ((false, ()), ((), (), (), ())) else if (!(x2.toList == (⟨#[]⟩ : ByteArray).toList)) = true then if (decide (0 ≤ x7)) = true then (x0[x7.toNat]?).bind fun y2 => if (!(Op.bytesLess y2.toList x2.toList)) = true then some ((false, ()), ((), (), (), ())) else F59c2 k x0 x1 x2 (IntKind.i64.wrap (x7 + (1 : Int))) else none else F59c2 k x0 x1 x2 (IntKind.i64.wrap (x7 + (1 : Int))) else none else some ((true, ()), ((), (), (), ())) := by kernel_rfl
theorem F62_eq (k : Nat) (a0 : List ByteArray) (a1 : List ByteArray) : F62 (k + 2) a0 a1 =
    if ((a0.length : Int) != (a1.length : Int)) = true then some ((false, ()), ((), (), ())) else F62c4 k a0 a1 (0 : Int) := by kernel_rfl
theorem F62c4_eq (k : Nat) (x0 : List ByteArray) (x1 : List ByteArray) (x5 : Int) : F62c4 (k + 1) x0 x1 x5 =
    if (decide (x5 < (x0.length : Int))) = true then if (decide (0 ≤ x5)) = true then (x0[x5.toNat]?).bind fun y1 => if (decide (0 ≤ x5)) = true then (x1[x5.toNat]?).bind fun y2 => if (!(y1.toList == y2.toList)) = true then some ((false, ()), ((), (), ())) else F62c4 k x0 x1 (IntKind.i64.wrap (x5 + (1 : Int))) else none else none else some ((true, ()), ((), (), ())) := by kernel_rfl
theorem F63_eq (k : Nat) (a0 : List Int) (a1 : List Int) : F63 (k + 2) a0 a1 =
    if ((a0.length : Int) != (a1.length : Int)) = true then some ((false, ()), ((), (), ())) else F63c4 k a0 a1 (0 : Int) := by kernel_rfl
theorem F63c4_eq (k : Nat) (x0 : List Int) (x1 : List Int) (x5 : Int) : F63c4 (k + 1) x0 x1 x5 =
    if (decide (x5 < (x0.length : Int))) = true then if (decide (0 ≤ x5)) = true then (x0[x5.toNat]?).bind fun y1 => if (decide (0 ≤ x5)) = true then (x1[x5.toNat]?).bind fun y2 => if (y1 != y2) = true then some ((false, ()), ((), (), ())) else F63c4 k x0 x1 (IntKind.i64.wrap (x5 + (1 : Int))) else none else none else some ((true, ()), ((), (), ())) := by kernel_rfl
theorem F68_eq (k : Nat) (a0_0 : Bool) (a0_1 : List ByteArray) (a0_2 : List ByteArray) (a0_3 : List Int) : F68 (k + 2) a0_0 a0_1 a0_2 a0_3 =
    if (decide ((a0_1.length : Int) > (4 : Int))) = true then some ((false, ()), (((), (), (), (), ()), ())) else F68c4 k a0_0 a0_1 a0_2 a0_3 a0_1 (a0_1.length : Int) (0 : Int) := by kernel_rfl
theorem F68c4_eq (k : Nat) (x1_0 : Bool) (x1_1 : List ByteArray) (x1_2 : List ByteArray) (x1_3 : List Int) (x10 : List ByteArray) (x11 : Int) (x12 : Int) : F68c4 (k + 1) x1_0 x1_1 x1_2 x1_3 x10 x11 x12 =
    if (decide (x12 < x11)) = true then if (decide (0 ≤ x12)) = true then (x10[x12.toNat]?).bind fun y1 => (F51 k (y1.size : Int) (1 : Int) (96 : Int)).bind fun r2 => if (!r2.1.1) = true then some ((false, ()), (((), (), (), (), ()), ())) else if (decide (x12 > (0 : Int))) = true then if (decide (0 ≤ (IntKind.i64.wrap (x12 - (1 : Int))))) = true then (x1_1[(IntKind.i64.wrap (x12 - (1 : Int))).toNat]?).bind fun y3 => if (!(Op.bytesLess y3.toList y1.toList)) = true then some ((false, ()), (((), (), (), (), ()), ())) else F68c4 k x1_0 x1_1 x1_2 x1_3 x10 x11 (IntKind.i64.wrap (x12 + (1 : Int))) else none else F68c4 k x1_0 x1_1 x1_2 x1_3 x10 x11 (IntKind.i64.wrap (x12 + (1 : Int))) else none else if x1_0 = true then if ((x1_3.length : Int) == (0 : Int)) = true then if ((x1_2.length : Int) == (x1_1.length : Int)) = true then (F82080 k x1_2).bind fun r4 => some (((!r4.1.1), ()), (((), (), (), (), ()), ())) else some ((false, ()), (((), (), (), (), ()), ())) else some ((false, ()), (((), (), (), (), ()), ())) else if ((x1_2.length : Int) == (0 : Int)) = true then if (decide ((x1_1.length : Int) > (0 : Int))) = true then if ((x1_3.length : Int) == (IntKind.i64.wrap ((x1_1.length : Int) + (1 : Int)))) = true then (F84082 k x1_3).bind fun r5 => some (((!r5.1.1), ()), (((), (), (), (), ()), ())) else some ((false, ()), (((), (), (), (), ()), ())) else some ((false, ()), (((), (), (), (), ()), ())) else some ((false, ()), (((), (), (), (), ()), ())) := by kernel_rfl
theorem F72_eq (k : Nat) (a0 : List ByteArray) : F72 (k + 2) a0 =
    F72c2 k a0 (0 : Int) := by kernel_rfl
theorem F72c2_eq (k : Nat) (x0 : List ByteArray) (x3 : Int) : F72c2 (k + 1) x0 x3 =
    if (decide (x3 < (x0.length : Int))) = true then if (decide (0 ≤ x3)) = true then (x0[x3.toNat]?).bind fun y1 => (F39 k (y1.size : Int) (1 : Int) (96 : Int)).bind fun r2 => if (!r2.1.1) = true then some ((false, ()), ((), ())) else if (decide (x3 > (0 : Int))) = true then if (decide (0 ≤ x3)) = true then (x0[x3.toNat]?).bind fun y3 => if (decide (0 ≤ (IntKind.i64.wrap (x3 - (1 : Int))))) = true then (x0[(IntKind.i64.wrap (x3 - (1 : Int))).toNat]?).bind fun y4 => if (Op.bytesLess y3.toList y4.toList || y3.toList == y4.toList) = true then some ((false, ()), ((), ())) else F72c2 k x0 (IntKind.i64.wrap (x3 + (1 : Int))) else none else none else F72c2 k x0 (IntKind.i64.wrap (x3 + (1 : Int))) else none else some ((decide ((x0.length : Int) ≤ (4 : Int)), ()), ((), ())) := by kernel_rfl
theorem F81_eq (k : Nat) (a0 : ByteArray) : F81 (k + 2) a0 =
    some ((decide ((a0.size : Int) > (140 : Int)), ()), ((), ())) := by kernel_rfl
theorem F83_eq (k : Nat) (a0 : Int) : F83 (k + 2) a0 =
    (F51 k a0 (0 : Int) (18 : Int)).bind fun r1 => some (((!r1.1.1), ()), ((), ())) := by kernel_rfl
theorem F82080_eq (k : Nat) (a0 : List ByteArray) : F82080 (k + 2) a0 =
    (F82095 k a0).bind fun r1 => some ((decide (r1.1.1 ≥ (0 : Int)), ()), ((), (), ())) := by kernel_rfl
theorem F82095_eq (k : Nat) (a0 : List ByteArray) : F82095 (k + 2) a0 =
    F82095c2 k a0 (a0.length : Int) (0 : Int) := by kernel_rfl
theorem F82095c2_eq (k : Nat) (x0 : List ByteArray) (x7 : Int) (x8 : Int) : F82095c2 (k + 1) x0 x7 x8 =
    if (decide (x8 < x7)) = true then if (decide (0 ≤ x8)) = true then (x0[x8.toNat]?).bind fun y1 => (F81 k y1).bind fun r2 => if r2.1.1 = true then some ((x8, ()), ((), (), ())) else F82095c2 k x0 x7 (IntKind.i64.wrap (x8 + (1 : Int))) else none else some (((-1 : Int), ()), ((), (), ())) := by kernel_rfl
theorem F84082_eq (k : Nat) (a0 : List Int) : F84082 (k + 2) a0 =
    (F84096 k a0).bind fun r1 => some ((decide (r1.1.1 ≥ (0 : Int)), ()), ((), (), ())) := by kernel_rfl
theorem F84096_eq (k : Nat) (a0 : List Int) : F84096 (k + 2) a0 =
    F84096c2 k a0 (a0.length : Int) (0 : Int) := by kernel_rfl
theorem F84096c2_eq (k : Nat) (x0 : List Int) (x7 : Int) (x8 : Int) : F84096c2 (k + 1) x0 x7 x8 =
    if (decide (x8 < x7)) = true then if (decide (0 ≤ x8)) = true then (x0[x8.toNat]?).bind fun y1 => (F83 k y1).bind fun r2 => if r2.1.1 = true then some ((x8, ()), ((), (), ())) else F84096c2 k x0 x7 (IntKind.i64.wrap (x8 + (1 : Int))) else none else some (((-1 : Int), ()), ((), (), ())) := by kernel_rfl
end Go.Proofs.Ytcolgghllacloaa.R
end

section
/-! Rf, trees: copies, comparisons, bulk. -/
set_option autoImplicit false
namespace Go.Proofs.Ytcolgghllacloaa.R
open Go.Rf

abbrev NodeT : Type := Bool × List ByteArray × List ByteArray × List Int × Unit
def okLen (n : Nat) : Prop := n ≤ 1048576
def okNode (n : NodeT) : Prop := okLen n.2.1.length ∧ okLen n.2.2.1.length ∧ okLen n.2.2.2.1.length

theorem F62_ev (l : List ByteArray) (h : okLen l.length) : Ev (fun k => F62 k l l) ((true, ()), ((), (), ())) := by
  unfold okLen at h
  refine Ev.step 2 (fun k => F62_eq k l l) ?_
  simp only [bne_self_eq_false, Bool.false_eq_true, if_false]
  exact same_loop (L := fun k i => F62c4 k l l i) (x0 := l) (g := fun _ y1 y2 => some (y1.toList == y2.toList)) (p := id) (no := ((false, ()), ((), (), ()))) (h := fun _ => true) (by omega) (fun k i => F62c4_eq k l l i) (fun y _ => by
    simp only [beq_self_eq_true]
    exact ⟨Ev.now _, rfl⟩)
theorem F63_ev (l : List Int) (h : okLen l.length) : Ev (fun k => F63 k l l) ((true, ()), ((), (), ())) := by
  unfold okLen at h
  refine Ev.step 2 (fun k => F63_eq k l l) ?_
  simp only [bne_self_eq_false, Bool.false_eq_true, if_false]
  exact same_loop (L := fun k i => F63c4 k l l i) (x0 := l) (g := fun _ y1 y2 => some (y1 == y2)) (p := id) (no := ((false, ()), ((), (), ()))) (h := fun _ => true) (by omega) (fun k i => F63c4_eq k l l i) (fun y _ => by
    simp only [beq_self_eq_true]
    exact ⟨Ev.now _, rfl⟩)
theorem F45_ev (n : NodeT) (h : okNode n) : Ev (fun k => F45 k n.1 n.2.1 n.2.2.1 n.2.2.2.1 n.1 n.2.1 n.2.2.1 n.2.2.2.1) ((true, ()), (((), (), (), (), ()), ((), (), (), (), ()), ())) := by
  obtain ⟨h1, h2, h3⟩ := h
  refine Ev.step 2 (fun k => F45_eq k _ _ _ _ _ _ _ _) ?_
  simp only [beq_self_eq_true, Bool.not_true, Bool.false_eq_true, if_false]
  refine Ev.bind (F62_ev _ h1) ?_
  simp only [Bool.not_true, Bool.false_eq_true, if_false]
  refine Ev.bind (F62_ev _ h2) ?_
  simp only [Bool.not_true, Bool.false_eq_true, if_false]
  refine Ev.bind (F63_ev _ h3) ?_
  simp only [Bool.not_true, Bool.false_eq_true, if_false]
  exact Ev.now _
theorem F29_ev (l : List NodeT) (h : okLen l.length) (hl : ∀ n, n ∈ l → okNode n) : Ev (fun k => F29 k l l) ((true, ()), ((), (), ())) := by
  unfold okLen at h
  refine Ev.step 2 (fun k => F29_eq k l l) ?_
  simp only [bne_self_eq_false, Bool.false_eq_true, if_false]
  exact same_loop (L := fun k i => F29c4 k l l i) (x0 := l) (g := fun k y1 y2 => F45 k y1.1 y1.2.1 y1.2.2.1 y1.2.2.2.1 y2.1 y2.2.1 y2.2.2.1 y2.2.2.2.1) (p := fun r => r.1.1) (no := ((false, ()), ((), (), ())))
    (h := fun _ => ((true, ()), (((), (), (), (), ()), ((), (), (), (), ()), ()))) (by omega) (fun k i => F29c4_eq k l l i) (fun y hy => ⟨F45_ev y (hl y hy), rfl⟩)
theorem F11_ev (t : Int) (l : List NodeT) (h : okLen l.length) (hl : ∀ n, n ∈ l → okNode n) : Ev (fun k => F11 k t l t l) ((true, ()), (((), (), ()), ((), (), ()), ())) := by
  refine Ev.step 2 (fun k => F11_eq k t l t l) ?_
  simp only [bne_self_eq_false, Bool.false_eq_true, if_false]
  refine Ev.bind (F29_ev l h hl) ?_
  simp only [Bool.not_true, Bool.false_eq_true, if_false]
  exact Ev.now _

/-! bulk -/
theorem F56_ev (l : List ByteArray) (hlen : l.length ≤ 9223372036854775807) (b : Int) (h0 : 0 ≤ b) (hb : b ≤ 1048576) (hs : ∀ y, y ∈ l → y.size ≤ 9223372036854775807) :
    ∃ r, Ev (fun k => F56 k l b) r ∧ (r.1.1 < 0 ∨ (0 ≤ r.1.1 ∧ r.1.1 ≤ b ∧ okLen l.length)) := by
  have st : ∀ {r}, Ev (fun k => if decide (IntKind.i64.wrap (b - (l.length : Int)) < (0 : Int)) = true then some (((-1 : Int), ()), ((), (), ())) else F56c5 k l (IntKind.i64.wrap (b - (l.length : Int))) (0 : Int)) r → Ev (fun k => F56 k l b) r := fun h => Ev.step 2 (fun k => F56_eq k l b) h
  rw [wrap64 (by omega) (by omega)] at st
  by_cases hn : b - (l.length : Int) < 0
  · refine ⟨(((-1 : Int), ()), ((), (), ())), st ?_, .inl (by decide : (-1 : Int) < 0)⟩
    simp only [hn, decide_true, if_true]
    exact Ev.now _
  · obtain ⟨r, h1, h2⟩ := size_loop (L := fun k b i => F56c5 k l b i) (x0 := l) (g := fun _ y b => some (IntKind.i64.wrap (b - (y.size : Int)))) (p := id) (no := (((-1 : Int), ()), ((), (), ()))) (fin := fun b => ((b, ()), ((), (), ()))) (Q := fun _ => True) hlen (fun k b i => F56c5_eq k l b i)
      (B := 1048576) (fun y hy b hb0 hb1 => ⟨_, Ev.now _, by
        have := hs y hy
        simp only [id]
        rw [wrap64 (by omega) (by omega)]
        by_cases hc : b - (y.size : Int) < 0
        · exact .inl hc
        · exact .inr ⟨by omega, by omega, trivial⟩⟩) (b - (l.length : Int)) (by omega) (by omega)
    refine ⟨r, st ?_, ?_⟩
    · have : decide (b - (l.length : Int) < 0) = false := by simp; omega
      simp only [this, Bool.false_eq_true, if_false]
      exact h1
    · rcases h2 with rfl | ⟨b', rfl, h3, h4, _⟩
      · exact .inl (by decide : (-1 : Int) < 0)
      · exact .inr ⟨h3, by show b' ≤ b; omega, by unfold okLen; omega⟩
theorem F57_ev (l : List Int) (hlen : l.length ≤ 9223372036854775807) (b : Int) (h0 : 0 ≤ b) (hb : b ≤ 1048576) : ∃ r, Ev (fun k => F57 k l b) r ∧ (r.1.1 < 0 ∨ (0 ≤ r.1.1 ∧ r.1.1 ≤ b ∧ okLen l.length)) := by
  have st : ∀ {r}, Ev (fun _ => if decide (IntKind.i64.wrap (b - (l.length : Int)) < (0 : Int)) = true then some (((-1 : Int), ()), ((), (), ())) else some (((IntKind.i64.wrap (b - (l.length : Int))), ()), ((), (), ()))) r → Ev (fun k => F57 k l b) r := fun h => Ev.step 2 (fun k => F57_eq k l b) h
  rw [wrap64 (by omega) (by omega)] at st
  by_cases hn : b - (l.length : Int) < 0
  · refine ⟨(((-1 : Int), ()), ((), (), ())), st ?_, .inl (by decide : (-1 : Int) < 0)⟩
    simp only [hn, decide_true, if_true]
    exact Ev.now _
  · refine ⟨(((b - (l.length : Int)), ()), ((), (), ())), st ?_, .inr ?_⟩
    · have : decide (b - (l.length : Int) < 0) = false := by simp; omega
      simp only [this, Bool.false_eq_true, if_false]
      exact Ev.now _
    · exact ⟨by show 0 ≤ b - (l.length : Int); omega, by show b - (l.length : Int) ≤ b; omega, by unfold okLen; omega⟩
/-- no string and no row longer than can be counted -/
def fitsN (n : NodeT) : Prop := n.2.1.length ≤ 9223372036854775807 ∧ (∀ y, y ∈ n.2.1 → y.size ≤ 9223372036854775807) ∧ n.2.2.1.length ≤ 9223372036854775807 ∧ (∀ y, y ∈ n.2.2.1 → y.size ≤ 9223372036854775807) ∧ n.2.2.2.1.length ≤ 9223372036854775807
theorem F38_ev (n : NodeT) (hf : fitsN n) (b : Int) (h0 : 0 ≤ b) (hb : b ≤ 1048576) : ∃ r, Ev (fun k => F38 k n.1 n.2.1 n.2.2.1 n.2.2.2.1 b) r ∧ (r.1.1 < 0 ∨ (0 ≤ r.1.1 ∧ r.1.1 ≤ b ∧ okNode n)) := by
  obtain ⟨f1, f2, f3, f4, f5⟩ := hf
  have e := fun k => F38_eq k n.1 n.2.1 n.2.2.1 n.2.2.2.1 b
  have neg1 : ((-1 : Int) < 0) := by decide
  obtain ⟨r1, h1, c1⟩ := F56_ev n.2.1 f1 b h0 hb f2
  rcases c1 with c1 | ⟨c1, d1, e1⟩
  · refine ⟨(((-1 : Int), ()), (((), (), (), (), ()), (), ())), Ev.step 2 e (Ev.bind h1 ?_), .inl neg1⟩
    simp only [c1, decide_true, if_true]
    exact Ev.now _
  obtain ⟨r2, h2, c2⟩ := F56_ev n.2.2.1 f3 r1.1.1 c1 (by omega) f4
  have n1 : decide (r1.1.1 < 0) = false := by simp; omega
  rcases c2 with c2 | ⟨c2, d2, e2⟩
  · refine ⟨(((-1 : Int), ()), (((), (), (), (), ()), (), ())), Ev.step 2 e (Ev.bind h1 ?_), .inl neg1⟩
    simp only [n1, Bool.false_eq_true, if_false]
    refine Ev.bind h2 ?_
    simp only [c2, decide_true, if_true]
    exact Ev.now _
  obtain ⟨r3, h3, c3⟩ := F57_ev n.2.2.2.1 f5 r2.1.1 c2 (by omega)
  have n2 : decide (r2.1.1 < 0) = false := by simp; omega
  rcases c3 with c3 | ⟨c3, d3, e3⟩
  · refine ⟨(((-1 : Int), ()), (((), (), (), (), ()), (), ())), Ev.step 2 e (Ev.bind h1 ?_), .inl neg1⟩
    simp only [n1, Bool.false_eq_true, if_false]
    refine Ev.bind h2 ?_
    simp only [n2, Bool.false_eq_true, if_false]
    refine Ev.bind h3 ?_
    simp only [c3, decide_true, if_true]
    exact Ev.now _
  · have n3 : decide (r3.1.1 < 0) = false := by simp; omega
    refine ⟨((r3.1.1, ()), (((), (), (), (), ()), (), ())), Ev.step 2 e (Ev.bind h1 ?_), .inr ⟨c3, by show r3.1.1 ≤ b; omega, e1, e2, e3⟩⟩
    simp only [n1, Bool.false_eq_true, if_false]
    refine Ev.bind h2 ?_
    simp only [n2, Bool.false_eq_true, if_false]
    refine Ev.bind h3 ?_
    simp only [n3, Bool.false_eq_true, if_false]
    exact Ev.now _
theorem F23_ev (l : List NodeT) (hlen : l.length ≤ 9223372036854775807) (hf : ∀ n, n ∈ l → fitsN n) (b : Int) (h0 : 0 ≤ b) (hb : b ≤ 1048576) : ∃ r, Ev (fun k => F23 k l b) r ∧ (r.1.1 < 0 ∨ (0 ≤ r.1.1 ∧ okLen l.length ∧ ∀ n, n ∈ l → okNode n)) := by
  have st : ∀ {r}, Ev (fun k => if decide (IntKind.i64.wrap (b - (l.length : Int)) < (0 : Int)) = true then some (((-1 : Int), ()), ((), (), ())) else F23c5 k l (IntKind.i64.wrap (b - (l.length : Int))) (0 : Int)) r → Ev (fun k => F23 k l b) r := fun h => Ev.step 2 (fun k => F23_eq k l b) h
  rw [wrap64 (by omega) (by omega)] at st
  by_cases hn : b - (l.length : Int) < 0
  · refine ⟨(((-1 : Int), ()), ((), (), ())), st ?_, .inl (by decide : (-1 : Int) < 0)⟩
    simp only [hn, decide_true, if_true]
    exact Ev.now _
  · obtain ⟨r, h1, h2⟩ := size_loop (L := fun k b i => F23c5 k l b i) (x0 := l) (g := fun k y b => F38 k y.1 y.2.1 y.2.2.1 y.2.2.2.1 b) (p := fun r => r.1.1) (no := (((-1 : Int), ()), ((), (), ()))) (fin := fun b => ((b, ()), ((), (), ()))) (Q := okNode) hlen (fun k b i => F23c5_eq k l b i)
      (B := 1048576) (fun y hy b hb0 hb1 => F38_ev y (hf y hy) b hb0 hb1) (b - (l.length : Int)) (by omega) (by omega)
    refine ⟨r, st ?_, ?_⟩
    · have : decide (b - (l.length : Int) < 0) = false := by simp; omega
      simp only [this, Bool.false_eq_true, if_false]
      exact h1
    · rcases h2 with rfl | ⟨b', rfl, h3, h4, h5⟩
      · exact .inl (by decide : (-1 : Int) < 0)
      · exact .inr ⟨h3, by unfold okLen; omega, h5⟩
theorem F6_ev (t : Int) (l : List NodeT) (hlen : l.length ≤ 9223372036854775807) (hf : ∀ n, n ∈ l → fitsN n) : ∃ r, Ev (fun k => F6 k t l 1048576) r ∧ (r.1.1 < 0 ∨ (0 ≤ r.1.1 ∧ okLen l.length ∧ ∀ n, n ∈ l → okNode n)) := by
  obtain ⟨r, h1, h2⟩ := F23_ev l hlen hf 1048576 (by decide) (by decide)
  rcases h2 with h2 | ⟨h2, h3⟩
  · refine ⟨(((-1 : Int), ()), (((), (), ()), (), ())), Ev.step 2 (fun k => F6_eq k t l 1048576) (Ev.bind h1 ?_), .inl (by decide : (-1 : Int) < 0)⟩
    simp only [h2, decide_true, if_true]
    exact Ev.now _
  · refine ⟨((r.1.1, ()), (((), (), ()), (), ())), Ev.step 2 (fun k => F6_eq k t l 1048576) (Ev.bind h1 ?_), .inr ⟨h2, h3⟩⟩
    have : decide (r.1.1 < 0) = false := by simp; omega
    simp only [this, Bool.false_eq_true, if_false]
    exact Ev.now _
end Go.Proofs.Ytcolgghllacloaa.R
end

section
/-! Rf, trees: what a node must meet; both sides ask the same. -/
set_option autoImplicit false
namespace Go.Proofs.Ytcolgghllacloaa.R
open Go.Rf

def inNode (n lo hi : Int) : Bool := decide (n ≥ lo) && decide (n ≤ hi)
theorem F39_ev (n lo hi : Int) : Ev (fun k => F39 k n lo hi) ((inNode n lo hi, ()), ((), (), (), ())) := by
  refine Ev.step 2 (fun k => F39_eq k n lo hi) ?_
  unfold inNode
  cases h : decide (n ≥ lo) with
  | true => exact Ev.now _
  | false => exact Ev.now _
theorem F51_ev (n lo hi : Int) : Ev (fun k => F51 k n lo hi) ((inNode n lo hi, ()), ((), (), (), ())) := by
  refine Ev.step 2 (fun k => F51_eq k n lo hi) ?_
  unfold inNode
  cases h : decide (n ≥ lo) with
  | true => exact Ev.now _
  | false => exact Ev.now _
/-- the i-th key: its size, its place behind the one before -/
def keyOk (l : List ByteArray) (i : Nat) : Bool := inNode ((l.getD i ByteArray.empty).size : Int) 1 96 && (i == 0 || Op.bytesLess (l.getD (i - 1) ByteArray.empty).toList (l.getD i ByteArray.empty).toList)
def keysOk' (l : List ByteArray) : Bool := (List.range l.length).all (keyOk l)
theorem getD_of {l : List ByteArray} {i : Nat} (h : i < l.length) : l[i]? = some (l.getD i ByteArray.empty) := by
  rw [List.getD_eq_getElem?_getD, List.getElem?_eq_getElem h]
  rfl
theorem gt0 {i : Nat} : decide ((i : Int) > 0) = !(i == 0) := by
  cases i with
  | zero => rfl
  | succ i => simp
theorem pred64 {i : Nat} (h : 0 < i) (hn : i ≤ 4611686018427387904) : IntKind.i64.wrap ((i : Int) - 1) = ((i - 1 : Nat) : Int) := by
  rw [wrap64 (by omega) (by omega)]
  omega
theorem F72_ev (l : List ByteArray) (h : okLen l.length) : Ev (fun k => F72 k l) ((keysOk' l && decide ((l.length : Int) ≤ 4), ()), ((), ())) := by
  unfold okLen at h
  refine Ev.step 2 (fun k => F72_eq k l) ?_
  have := all_loop (L := fun k i => F72c2 k l i) (n := l.length) (no := ((false, ()), ((), ()))) (yes := ((decide ((l.length : Int) ≤ 4), ()), ((), ()))) (c := keyOk l) ?_ ?_ ?_
  · unfold keysOk'
    refine (congrArg (Ev _) ?_).mp this
    cases (List.range l.length).all (keyOk l) <;> rfl
  · intro i hi hc
    refine Ev.step 1 (fun k => F72c2_eq k l i) ?_
    simp only [lt_true hi, ge0, if_true, Int.toNat_natCast, getD_of hi, Option.bind_some]
    refine Ev.bind (F39_ev _ 1 96) ?_
    simp only [gt0]
    unfold keyOk at hc
    cases hw : inNode ((l.getD i ByteArray.empty).size : Int) 1 96 with
    | false => exact Ev.now _
    | true =>
      rw [hw] at hc
      simp only [Bool.true_and, Bool.or_eq_false_iff] at hc
      have hp : 0 < i := by
        rcases Nat.eq_zero_or_pos i with h0 | h0
        · rw [h0] at hc; cases hc.1
        · exact h0
      have hi2 : i - 1 < l.length := by omega
      simp only [hc.1, Bool.not_false, Bool.not_true, Bool.false_eq_true, if_false, if_true, pred64 hp (by omega), ge0, Int.toNat_natCast, getD_of hi2, Option.bind_some]
      have := not_less (l.getD (i - 1) ByteArray.empty).toList (l.getD i ByteArray.empty).toList
      rw [hc.2] at this
      simp only [← this, Bool.not_false, if_true]
      exact Ev.now _
  · intro i hi hc r hr
    refine Ev.step 1 (fun k => F72c2_eq k l i) ?_
    simp only [lt_true hi, ge0, if_true, Int.toNat_natCast, getD_of hi, Option.bind_some]
    refine Ev.bind (F39_ev _ 1 96) ?_
    unfold keyOk at hc
    simp only [Bool.and_eq_true, Bool.or_eq_true] at hc
    simp only [gt0, hc.1, Bool.not_true, Bool.false_eq_true, if_false]
    rw [wrap_succ (by omega)]
    cases h0 : (i == 0) with
    | true => exact hr
    | false =>
      have hp : 0 < i := by
        rcases Nat.eq_zero_or_pos i with h1 | h1
        · rw [h1] at h0; cases h0
        · exact h1
      have hi2 : i - 1 < l.length := by omega
      rcases hc.2 with hc2 | hc2
      · rw [h0] at hc2; cases hc2
      · simp only [Bool.not_false, if_true, pred64 hp (by omega), ge0, Int.toNat_natCast, getD_of hi2, Option.bind_some]
        have := not_less (l.getD (i - 1) ByteArray.empty).toList (l.getD i ByteArray.empty).toList
        rw [hc2] at this
        simp only [← this, Bool.not_true, Bool.false_eq_true, if_false]
        exact hr
  · refine Ev.step 1 (fun k => F72c2_eq k l l.length) ?_
    simp only [lt_false (Nat.le_refl l.length), Bool.false_eq_true, if_false]
    exact Ev.now _
def valsOk (l : List ByteArray) : Bool := (List.range l.length).all fun i => !decide (((l.getD i ByteArray.empty).size : Int) > 140)
def kidsOk (l : List Int) : Bool := (List.range l.length).all fun i => inNode (l.getD i 0) 0 18
def nodeOk (n : NodeT) : Bool := keysOk' n.2.1 && decide ((n.2.1.length : Int) ≤ 4) && (if n.1 = true then valsOk n.2.2.1 && ((n.2.2.1.length : Int) == (n.2.1.length : Int)) && ((n.2.2.2.1.length : Int) == 0)
  else kidsOk n.2.2.2.1 && ((n.2.2.1.length : Int) == 0) && decide ((n.2.1.length : Int) > 0) && ((n.2.2.2.1.length : Int) == (n.2.1.length : Int) + 1))
theorem getI_of {l : List Int} {i : Nat} (h : i < l.length) : l[i]? = some (l.getD i 0) := by
  rw [List.getD_eq_getElem?_getD, List.getElem?_eq_getElem h]
  rfl
theorem F58_ev (n : NodeT) (h : okNode n) : Ev (fun k => F58 k n.1 n.2.1 n.2.2.1 n.2.2.2.1) ((nodeOk n, ()), (((), (), (), (), ()), ())) := by
  obtain ⟨h1, h2, h3⟩ := h
  obtain ⟨leaf, keys, vals, kids, u⟩ := n
  simp only at h1 h2 h3 ⊢
  refine Ev.step 2 (fun k => F58_eq k leaf keys vals kids) ?_
  refine Ev.bind (F72_ev keys h1) ?_
  unfold okLen at h1 h2 h3
  unfold nodeOk
  cases hk : (keysOk' keys && decide ((keys.length : Int) ≤ 4)) with
  | false =>
    simp only [Bool.false_and]
    exact Ev.now _
  | true =>
    simp only [Bool.true_and, Bool.not_true, Bool.false_eq_true, if_false]
    cases leaf with
    | true =>
      simp only [if_true]
      have := all_loop (L := fun k i => F58c5 k true keys vals kids i) (n := vals.length) (no := ((false, ()), (((), (), (), (), ()), ()))) (yes := ((((vals.length : Int) == (keys.length : Int)) && ((kids.length : Int) == 0), ()), (((), (), (), (), ()), ())))
        (c := fun i => !decide (((vals.getD i ByteArray.empty).size : Int) > 140)) ?_ ?_ ?_
      · unfold valsOk
        refine (congrArg (Ev _) ?_).mp this
        cases (List.range vals.length).all _ <;> simp
      · intro i hi hc
        refine Ev.step 1 (fun k => F58c5_eq k true keys vals kids i) ?_
        simp only [Bool.not_eq_false'] at hc
        simp only [lt_true hi, ge0, if_true, Int.toNat_natCast, getD_of hi, Option.bind_some, hc]
        exact Ev.now _
      · intro i hi hc r hr
        refine Ev.step 1 (fun k => F58c5_eq k true keys vals kids i) ?_
        simp only [Bool.not_eq_true'] at hc
        simp only [lt_true hi, ge0, if_true, Int.toNat_natCast, getD_of hi, Option.bind_some, hc, Bool.false_eq_true, if_false]
        rw [wrap_succ (by omega)]
        exact hr
      · refine Ev.step 1 (fun k => F58c5_eq k true keys vals kids vals.length) ?_
        simp only [lt_false (Nat.le_refl vals.length), Bool.false_eq_true, if_false]
        cases ((vals.length : Int) == (keys.length : Int)) with
        | true => exact Ev.now _
        | false => exact Ev.now _
    | false =>
      simp only [Bool.false_eq_true, if_false]
      have := all_loop (L := fun k i => F58c11 k false keys vals kids i) (n := kids.length) (no := ((false, ()), (((), (), (), (), ()), ()))) (yes := ((((vals.length : Int) == 0) && decide ((keys.length : Int) > 0) && ((kids.length : Int) == (keys.length : Int) + 1), ()), (((), (), (), (), ()), ())))
        (c := fun i => inNode (kids.getD i 0) 0 18) ?_ ?_ ?_
      · unfold kidsOk
        refine (congrArg (Ev _) ?_).mp this
        cases (List.range kids.length).all _ <;> simp
      · intro i hi hc
        refine Ev.step 1 (fun k => F58c11_eq k false keys vals kids i) ?_
        simp only [lt_true hi, ge0, if_true, Int.toNat_natCast, getI_of hi, Option.bind_some]
        refine Ev.bind (F39_ev _ 0 18) ?_
        simp only [hc, Bool.not_false, if_true]
        exact Ev.now _
      · intro i hi hc r hr
        refine Ev.step 1 (fun k => F58c11_eq k false keys vals kids i) ?_
        simp only [lt_true hi, ge0, if_true, Int.toNat_natCast, getI_of hi, Option.bind_some]
        refine Ev.bind (F39_ev _ 0 18) ?_
        simp only [hc, Bool.not_true, Bool.false_eq_true, if_false]
        rw [wrap_succ (by omega)]
        exact hr
      · refine Ev.step 1 (fun k => F58c11_eq k false keys vals kids kids.length) ?_
        simp only [lt_false (Nat.le_refl kids.length), Bool.false_eq_true, if_false]
        rw [wrap64 (n := (keys.length : Int) + 1) (by omega) (by omega)]
        cases ((vals.length : Int) == 0) with
        | false => exact Ev.now _
        | true =>
          cases decide ((keys.length : Int) > 0) with
          | true => exact Ev.now _
          | false => exact Ev.now _
/-! the other side -/
theorem F82095_ev (l : List ByteArray) (h : okLen l.length) : ∃ r, Ev (fun k => F82095 k l) r ∧ decide (r.1.1 ≥ (0 : Int)) = !valsOk l := by
  unfold okLen at h
  obtain ⟨r, h1, h2⟩ := find_loop (L := fun k i => F82095c2 k l (l.length : Int) i) (n := l.length) (no := fun i => (((i : Int), ()), ((), (), ()))) (yes := (((-1 : Int), ()), ((), (), ()))) (c := fun i => !decide (((l.getD i ByteArray.empty).size : Int) > 140)) (fun i hi hc => by
      refine Ev.step 1 (fun k => F82095c2_eq k l _ i) ?_
      simp only [Bool.not_eq_false'] at hc
      simp only [lt_true hi, ge0, if_true, Int.toNat_natCast, getD_of hi, Option.bind_some]
      refine Ev.bind (Ev.step 2 (fun k => F81_eq k _) (Ev.now _)) ?_
      simp only [hc, if_true]
      exact Ev.now _) (fun i hi hc r hr => by
      refine Ev.step 1 (fun k => F82095c2_eq k l _ i) ?_
      simp only [Bool.not_eq_true'] at hc
      simp only [lt_true hi, ge0, if_true, Int.toNat_natCast, getD_of hi, Option.bind_some]
      refine Ev.bind (Ev.step 2 (fun k => F81_eq k _) (Ev.now _)) ?_
      simp only [hc, Bool.false_eq_true, if_false]
      rw [wrap_succ (by omega)]
      exact hr) (by
      refine Ev.step 1 (fun k => F82095c2_eq k l _ l.length) ?_
      simp only [lt_false (Nat.le_refl l.length), Bool.false_eq_true, if_false]
      exact Ev.now _)
  refine ⟨r, Ev.step 2 (fun k => F82095_eq k l) h1, ?_⟩
  unfold valsOk
  rcases h2 with ⟨h2, rfl⟩ | ⟨h2, i, _, rfl⟩
  · rw [h2]; rfl
  · rw [h2]; simp
theorem F82080_ev (l : List ByteArray) (h : okLen l.length) : Ev (fun k => F82080 k l) ((!valsOk l, ()), ((), (), ())) := by
  obtain ⟨r, h1, h2⟩ := F82095_ev l h
  refine Ev.step 2 (fun k => F82080_eq k l) (Ev.bind h1 ?_)
  simp only [h2]
  exact Ev.now _
theorem F84096_ev (l : List Int) (h : okLen l.length) : ∃ r, Ev (fun k => F84096 k l) r ∧ decide (r.1.1 ≥ (0 : Int)) = !kidsOk l := by
  unfold okLen at h
  obtain ⟨r, h1, h2⟩ := find_loop (L := fun k i => F84096c2 k l (l.length : Int) i) (n := l.length) (no := fun i => (((i : Int), ()), ((), (), ()))) (yes := (((-1 : Int), ()), ((), (), ()))) (c := fun i => inNode (l.getD i 0) 0 18) (fun i hi hc => by
      refine Ev.step 1 (fun k => F84096c2_eq k l _ i) ?_
      simp only [lt_true hi, ge0, if_true, Int.toNat_natCast, getI_of hi, Option.bind_some]
      refine Ev.bind (Ev.step 2 (fun k => F83_eq k _) (Ev.bind (F51_ev _ _ _) (Ev.now _))) ?_
      simp only [hc, Bool.not_false, if_true]
      exact Ev.now _) (fun i hi hc r hr => by
      refine Ev.step 1 (fun k => F84096c2_eq k l _ i) ?_
      simp only [lt_true hi, ge0, if_true, Int.toNat_natCast, getI_of hi, Option.bind_some]
      refine Ev.bind (Ev.step 2 (fun k => F83_eq k _) (Ev.bind (F51_ev _ _ _) (Ev.now _))) ?_
      simp only [hc, Bool.not_true, Bool.false_eq_true, if_false]
      rw [wrap_succ (by omega)]
      exact hr) (by
      refine Ev.step 1 (fun k => F84096c2_eq k l _ l.length) ?_
      simp only [lt_false (Nat.le_refl l.length), Bool.false_eq_true, if_false]
      exact Ev.now _)
  refine ⟨r, Ev.step 2 (fun k => F84096_eq k l) h1, ?_⟩
  unfold kidsOk
  rcases h2 with ⟨h2, rfl⟩ | ⟨h2, i, _, rfl⟩
  · rw [h2]; rfl
  · rw [h2]; simp
theorem F84082_ev (l : List Int) (h : okLen l.length) : Ev (fun k => F84082 k l) ((!kidsOk l, ()), ((), (), ())) := by
  obtain ⟨r, h1, h2⟩ := F84096_ev l h
  refine Ev.step 2 (fun k => F84082_eq k l) (Ev.bind h1 ?_)
  simp only [h2]
  exact Ev.now _
theorem F68_ev (n : NodeT) (h : okNode n) : Ev (fun k => F68 k n.1 n.2.1 n.2.2.1 n.2.2.2.1) ((nodeOk n, ()), (((), (), (), (), ()), ())) := by
  obtain ⟨h1, h2, h3⟩ := h
  obtain ⟨leaf, keys, vals, kids, u⟩ := n
  simp only at h1 h2 h3 ⊢
  refine Ev.step 2 (fun k => F68_eq k leaf keys vals kids) ?_
  unfold nodeOk
  cases h4 : decide ((keys.length : Int) > 4) with
  | true =>
    have h5 : decide ((keys.length : Int) ≤ 4) = false := by simp at h4 ⊢; omega
    simp only [h5, Bool.and_false, Bool.false_and, if_true]
    exact Ev.now _
  | false =>
    have h5 : decide ((keys.length : Int) ≤ 4) = true := by simp at h4 ⊢; omega
    simp only [h5, Bool.and_true, Bool.false_eq_true, if_false]
    have hl := h1
    unfold okLen at hl
    have := all_loop (L := fun k i => F68c4 k leaf keys vals kids keys (keys.length : Int) i) (n := keys.length) (no := ((false, ()), (((), (), (), (), ()), ())))
      (yes := ((if leaf = true then valsOk vals && ((vals.length : Int) == (keys.length : Int)) && ((kids.length : Int) == 0) else kidsOk kids && ((vals.length : Int) == 0) && decide ((keys.length : Int) > 0) && ((kids.length : Int) == (keys.length : Int) + 1), ()), (((), (), (), (), ()), ())))
      (c := keyOk keys) ?_ ?_ ?_
    · unfold keysOk'
      refine (congrArg (Ev _) ?_).mp this
      cases (List.range keys.length).all (keyOk keys) <;> simp
    · intro i hi hc
      refine Ev.step 1 (fun k => F68c4_eq k leaf keys vals kids keys _ i) ?_
      simp only [lt_true hi, ge0, if_true, Int.toNat_natCast, getD_of hi, Option.bind_some]
      refine Ev.bind (F51_ev _ 1 96) ?_
      simp only [gt0]
      unfold keyOk at hc
      cases hw : inNode ((keys.getD i ByteArray.empty).size : Int) 1 96 with
      | false => exact Ev.now _
      | true =>
        rw [hw] at hc
        simp only [Bool.true_and, Bool.or_eq_false_iff] at hc
        have hp : 0 < i := by
          rcases Nat.eq_zero_or_pos i with h0 | h0
          · rw [h0] at hc; cases hc.1
          · exact h0
        have hi2 : i - 1 < keys.length := by omega
        simp only [hc.1, Bool.not_false, Bool.not_true, Bool.false_eq_true, if_false, if_true, pred64 hp (by omega), ge0, Int.toNat_natCast, getD_of hi2, Option.bind_some, hc.2]
        exact Ev.now _
    · intro i hi hc r hr
      refine Ev.step 1 (fun k => F68c4_eq k leaf keys vals kids keys _ i) ?_
      simp only [lt_true hi, ge0, if_true, Int.toNat_natCast, getD_of hi, Option.bind_some]
      refine Ev.bind (F51_ev _ 1 96) ?_
      unfold keyOk at hc
      simp only [Bool.and_eq_true, Bool.or_eq_true] at hc
      simp only [gt0, hc.1, Bool.not_true, Bool.false_eq_true, if_false]
      rw [wrap_succ (by omega)]
      cases h0 : (i == 0) with
      | true => exact hr
      | false =>
        have hp : 0 < i := by
          rcases Nat.eq_zero_or_pos i with h1 | h1
          · rw [h1] at h0; cases h0
          · exact h1
        have hi2 : i - 1 < keys.length := by omega
        rcases hc.2 with hc2 | hc2
        · rw [h0] at hc2; cases hc2
        · simp only [Bool.not_false, if_true, pred64 hp (by omega), ge0, Int.toNat_natCast, getD_of hi2, Option.bind_some, hc2, Bool.not_true, Bool.false_eq_true, if_false]
          exact hr
    · refine Ev.step 1 (fun k => F68c4_eq k leaf keys vals kids keys _ keys.length) ?_
      simp only [lt_false (Nat.le_refl keys.length), Bool.false_eq_true, if_false]
      rw [wrap64 (n := (keys.length : Int) + 1) (by omega) (by omega)]
      cases leaf with
      | true =>
        simp only [if_true]
        cases ((kids.length : Int) == 0) with
        | false => simp only [Bool.and_false]; exact Ev.now _
        | true =>
          cases ((vals.length : Int) == (keys.length : Int)) with
          | false => simp only [Bool.and_false, Bool.false_and]; exact Ev.now _
          | true =>
            simp only [if_true, Bool.and_true]
            refine Ev.bind (F82080_ev vals h2) ?_
            simp only [Bool.not_not]
            exact Ev.now _
      | false =>
        simp only [Bool.false_eq_true, if_false]
        cases ((vals.length : Int) == 0) with
        | false => simp only [Bool.and_false, Bool.false_and]; exact Ev.now _
        | true =>
          cases decide ((keys.length : Int) > 0) with
          | false => simp only [Bool.and_false, Bool.false_and]; exact Ev.now _
          | true =>
            cases ((kids.length : Int) == (keys.length : Int) + 1) with
            | false => simp only [Bool.and_false]; exact Ev.now _
            | true =>
              simp only [if_true, Bool.and_true]
              refine Ev.bind (F84082_ev kids h3) ?_
              simp only [Bool.not_not]
              exact Ev.now _
/-! nodes that are empty; keys inNode bounds -/
def nodeZero (n : NodeT) : Bool := !n.1 && ((n.2.1.length : Int) == 0) && ((n.2.2.1.length : Int) == 0) && ((n.2.2.2.1.length : Int) == 0)
theorem F41_ev (n : NodeT) : Ev (fun k => F41 k n.1 n.2.1 n.2.2.1 n.2.2.2.1) ((nodeZero n, ()), (((), (), (), (), ()), ())) := by
  refine Ev.step 2 (fun k => F41_eq k _ _ _ _) ?_
  unfold nodeZero
  cases n.1 with
  | true => exact Ev.now _
  | false =>
    cases ((n.2.1.length : Int) == 0) with
    | false => exact Ev.now _
    | true => cases ((n.2.2.1.length : Int) == 0) with
      | false => exact Ev.now _
      | true => exact Ev.now _
theorem F53_ev (n : NodeT) : Ev (fun k => F53 k n.1 n.2.1 n.2.2.1 n.2.2.2.1) ((nodeZero n, ()), (((), (), (), (), ()), ())) := by
  refine Ev.step 2 (fun k => F53_eq k _ _ _ _) ?_
  unfold nodeZero
  cases n.1 with
  | true => exact Ev.now _
  | false =>
    cases ((n.2.1.length : Int) == 0) with
    | false => exact Ev.now _
    | true => cases ((n.2.2.1.length : Int) == 0) with
      | false => exact Ev.now _
      | true => exact Ev.now _
def inKey (l : List ByteArray) (low high : ByteArray) (i : Nat) : Bool := !(Op.bytesLess (l.getD i ByteArray.empty).toList low.toList) && (high.toList == (⟨#[]⟩ : ByteArray).toList || Op.bytesLess (l.getD i ByteArray.empty).toList high.toList)
def inKeys (l : List ByteArray) (low high : ByteArray) : Bool := (List.range l.length).all (inKey l low high)
theorem F59_ev (l : List ByteArray) (h : okLen l.length) (low high : ByteArray) : Ev (fun k => F59 k l low high) ((inKeys l low high, ()), ((), (), (), ())) := by
  unfold okLen at h
  refine Ev.step 2 (fun k => F59_eq k l low high) ?_
  have := all_loop (L := fun k i => F59c2 k l low high i) (n := l.length) (no := ((false, ()), ((), (), (), ()))) (yes := ((true, ()), ((), (), (), ()))) (c := inKey l low high) ?_ ?_ ?_
  · unfold inKeys
    refine (congrArg (Ev _) ?_).mp this
    cases (List.range l.length).all (inKey l low high) <;> rfl
  · intro i hi hc
    refine Ev.step 1 (fun k => F59c2_eq k l low high i) ?_
    simp only [lt_true hi, ge0, if_true, Int.toNat_natCast, getD_of hi, Option.bind_some]
    unfold inKey at hc
    cases h1 : Op.bytesLess (l.getD i ByteArray.empty).toList low.toList with
    | true => exact Ev.now _
    | false =>
      rw [h1] at hc
      simp only [Bool.not_false, Bool.true_and, Bool.or_eq_false_iff] at hc
      simp only [hc.1, hc.2, Bool.not_false, Bool.false_eq_true, if_false, if_true]
      exact Ev.now _
  · intro i hi hc r hr
    refine Ev.step 1 (fun k => F59c2_eq k l low high i) ?_
    simp only [lt_true hi, ge0, if_true, Int.toNat_natCast, getD_of hi, Option.bind_some]
    unfold inKey at hc
    simp only [Bool.and_eq_true, Bool.not_eq_true', Bool.or_eq_true] at hc
    simp only [hc.1, Bool.false_eq_true, if_false]
    rw [wrap_succ (by omega)]
    cases h2 : (high.toList == (⟨#[]⟩ : ByteArray).toList) with
    | true => exact hr
    | false =>
      rcases hc.2 with hc2 | hc2
      · rw [h2] at hc2; cases hc2
      · simp only [Bool.not_false, if_true, hc2, Bool.not_true, Bool.false_eq_true, if_false]
        exact hr
  · refine Ev.step 1 (fun k => F59c2_eq k l low high l.length) ?_
    simp only [lt_false (Nat.le_refl l.length), Bool.false_eq_true, if_false]
    exact Ev.now _
end Go.Proofs.Ytcolgghllacloaa.R
end

section
/-! Rf, trees: the two walks go hand in hand. -/
set_option autoImplicit false
namespace Go.Proofs.Ytcolgghllacloaa.R
open Go.Rf

def lo (keys : List ByteArray) (low : ByteArray) (i : Nat) : ByteArray := if i = 0 then low else keys.getD (i - 1) ByteArray.empty
def hi' (keys : List ByteArray) (high : ByteArray) (i : Nat) : ByteArray := if i < keys.length then keys.getD i ByteArray.empty else high
theorem gt0_pos {i : Nat} (h : 0 < i) : decide ((i : Int) > 0) = true := by simp; omega

section
variable {root : Nat} {l : List NodeT} {low high : ByteArray} {leaf : Bool} {keys vals : List ByteArray} {kids : List Int}
theorem spec_step {seen : List Bool} {deep : Int} {i : Nat} (hik : i < kids.length) (hk : kids.length ≤ keys.length + 1) (hl : keys.length ≤ 1048576) {r9 q} (h9 : Ev (fun k => F40 k root l (kids.getD i 0) (lo keys low i) (hi' keys high i) false seen) r9)
    (hq : Ev (fun k => if (decide (r9.1.1 < (0 : Int))) = true then some (((-1 : Int), ()), (((), (), ()), (), (), (), (), r9.2.2.2.2.2.2.1, ())) else if (decide (deep > (0 : Int))) = true then if (r9.1.1 != deep) = true then some (((-1 : Int), ()), (((), (), ()), (), (), (), (), r9.2.2.2.2.2.2.1, ())) else
      F40c11 k low high r9.2.2.2.2.2.2.1 root l leaf keys vals kids r9.1.1 ((i + 1 : Nat) : Int) else F40c11 k low high r9.2.2.2.2.2.2.1 root l leaf keys vals kids r9.1.1 ((i + 1 : Nat) : Int)) q) :
    Ev (fun k => F40c11 k low high seen root l leaf keys vals kids deep (i : Int)) q := by
  have h19 : ∀ from' to', from' = lo keys low i → to' = hi' keys high i → Ev (fun k => F40c19 k low high seen root l leaf keys vals kids deep (i : Int) from' to') q := by
    rintro _ _ rfl rfl
    refine Ev.step 1 (fun k => F40c19_eq k _ _ _ _ _ _ _ _ _ _ _ _ _) ?_
    simp only [ge0, if_true, Int.toNat_natCast, getI_of hik, Option.bind_some]
    refine Ev.bind h9 ?_
    rw [wrap_succ (by omega)]
    exact hq
  have h17 : ∀ from', from' = lo keys low i → Ev (fun k => F40c17 k low high seen root l leaf keys vals kids deep (i : Int) from' high) q := by
    intro from' hf
    refine Ev.step 1 (fun k => F40c17_eq k _ _ _ _ _ _ _ _ _ _ _ _ _) ?_
    by_cases h : i < keys.length
    · simp only [lt_true h, ge0, if_true, Int.toNat_natCast, getD_of h, Option.bind_some]
      exact h19 _ _ hf (by simp [hi', h])
    · simp only [lt_false (Nat.le_of_not_lt h), Bool.false_eq_true, if_false]
      exact h19 _ _ hf (by simp [hi', h])
  refine Ev.step 1 (fun k => F40c11_eq k _ _ _ _ _ _ _ _ _ _ _) ?_
  by_cases h0 : 0 < i
  · have hi2 : i - 1 < keys.length := by omega
    simp only [lt_true hik, if_true, gt0_pos h0, pred64 h0 (by omega), ge0, Int.toNat_natCast, getD_of hi2, Option.bind_some]
    exact h17 _ (by simp [lo, show i ≠ 0 by omega])
  · have : i = 0 := by omega
    subst this
    simp only [lt_true hik, if_true, gt0, beq_self_eq_true, Bool.not_true, Bool.false_eq_true, if_false]
    exact h17 _ (by simp [lo])
theorem impl_step {seen : List Bool} {D δ : Int} {i : Nat} (hik : i < kids.length) (hk : kids.length ≤ keys.length + 1) (hl : keys.length ≤ 1048576) (hδ : 0 ≤ δ) (hδ' : δ ≤ 1000) {r10 q} (h10 : Ev (fun k => F52 k root l seen D (kids.getD i 0) (δ + 1) (lo keys low i) (hi' keys high i)) r10)
    (hq : Ev (fun k => if (!r10.1.1) = true then some ((false, ()), ((r10.2.1.1, r10.2.1.2.1, r10.2.1.2.2.1, r10.2.1.2.2.2.1, ()), (), (), (), (), ())) else F52c16 k r10.2.1.1 r10.2.1.2.1 r10.2.1.2.2.1 r10.2.1.2.2.2.1 δ low high leaf keys vals kids kids (kids.length : Int) ((i + 1 : Nat) : Int)) q) :
    Ev (fun k => F52c16 k root l seen D δ low high leaf keys vals kids kids (kids.length : Int) (i : Int)) q := by
  have h23 : ∀ from' to', from' = lo keys low i → to' = hi' keys high i → Ev (fun k => F52c23 k root l seen D δ low high leaf keys vals kids (kids.getD i 0) from' to' kids (kids.length : Int) (i : Int)) q := by
    rintro _ _ rfl rfl
    refine Ev.step 1 (fun k => F52c23_eq k _ _ _ _ _ _ _ _ _ _ _ _ _ _ _ _ _) ?_
    rw [wrap64 (n := δ + 1) (by omega) (by omega), wrap_succ (by omega)]
    exact Ev.bind h10 hq
  have h21 : ∀ from', from' = lo keys low i → Ev (fun k => F52c21 k root l seen D δ low high leaf keys vals kids (i : Int) (kids.getD i 0) from' high kids (kids.length : Int) (i : Int)) q := by
    intro from' hf
    refine Ev.step 1 (fun k => F52c21_eq k _ _ _ _ _ _ _ _ _ _ _ _ _ _ _ _ _ _) ?_
    by_cases h : i < keys.length
    · simp only [lt_true h, ge0, if_true, Int.toNat_natCast, getD_of h, Option.bind_some]
      exact h23 _ _ hf (by simp [hi', h])
    · simp only [lt_false (Nat.le_of_not_lt h), Bool.false_eq_true, if_false]
      exact h23 _ _ hf (by simp [hi', h])
  refine Ev.step 1 (fun k => F52c16_eq k _ _ _ _ _ _ _ _ _ _ _ _ _ _) ?_
  by_cases h0 : 0 < i
  · have hi2 : i - 1 < keys.length := by omega
    simp only [lt_true hik, if_true, gt0_pos h0, pred64 h0 (by omega), ge0, Int.toNat_natCast, getI_of hik, getD_of hi2, Option.bind_some]
    exact h21 _ (by simp [lo, show i ≠ 0 by omega])
  · have : i = 0 := by omega
    subst this
    simp only [lt_true hik, if_true, ge0, Int.toNat_natCast, getI_of hik, Option.bind_some, gt0, beq_self_eq_true, Bool.not_true, Bool.false_eq_true, if_false]
    exact h21 _ (by simp [lo])
end
/-- how many nodes a tree of a depth has at least -/
def cost : Bool → Nat → Nat
  | _, 0 => 0
  | r, d + 1 => 1 + (if r = true then 2 else 3) * cost false d
theorem cost_one (r : Bool) : cost r 1 = 1 := by cases r <;> rfl
theorem cost_step {isr : Bool} {K dn a b c s : Nat} (h : isr = true ∨ 2 ≤ K) (hK : 1 ≤ K) (h1 : a + K * cost false dn ≤ b) (h2 : b + cost false dn ≤ c) (h3 : c + 1 = s) : a + cost isr (dn + 1) ≤ s := by
  show a + (1 + (if isr = true then 2 else 3) * cost false dn) ≤ s
  rcases h with h | h
  · subst h
    have := Nat.mul_le_mul_right (cost false dn) hK
    simp only [if_true]
    omega
  · have := Nat.mul_le_mul_right (cost false dn) h
    split <;> omega
/-- a node of a depth is in order, and all below it -/
def Gd (l : List NodeT) : Nat → Nat → ByteArray → ByteArray → Bool → Prop
  | 0, _, _, _, _ => False
  | d + 1, at', low, high, isr => ∃ n : NodeT, l[at']? = some n ∧ nodeOk n = true ∧ inKeys n.2.1 low high = true ∧ (isr = true ∨ 2 ≤ n.2.1.length) ∧
      ((n.1 = true ∧ d = 0) ∨ (n.1 = false ∧ n.2.2.2.1.length = n.2.1.length + 1 ∧ ∀ i, i < n.2.2.2.1.length → ∃ kid : Nat, n.2.2.2.1.getD i 0 = (kid : Int) ∧ kid < 19 ∧ Gd l d kid (lo n.2.1 low i) (hi' n.2.1 high i) false))
theorem Gd_succ {l : List NodeT} {d at' : Nat} {low high : ByteArray} {isr : Bool} : Gd l (d + 1) at' low high isr ↔ ∃ n : NodeT, l[at']? = some n ∧ nodeOk n = true ∧ inKeys n.2.1 low high = true ∧ (isr = true ∨ 2 ≤ n.2.1.length) ∧
      ((n.1 = true ∧ d = 0) ∨ (n.1 = false ∧ n.2.2.2.1.length = n.2.1.length + 1 ∧ ∀ i, i < n.2.2.2.1.length → ∃ kid : Nat, n.2.2.2.1.getD i 0 = (kid : Int) ∧ kid < 19 ∧ Gd l d kid (lo n.2.1 low i) (hi' n.2.1 high i) false)) := Iff.rfl
/-- what a walk that came to a depth tells of the tree -/
def WG (l : List NodeT) (d : Int) (at' : Nat) (low high : ByteArray) (isr : Bool) (c c' : Nat) : Prop := 1 ≤ d → Gd l d.toNat at' low high isr ∧ c' + cost isr d.toNat ≤ c
theorem WG_neg {l : List NodeT} {at' : Nat} {low high : ByteArray} {isr : Bool} {c c' : Nat} : WG l (-1) at' low high isr c c' := fun h => absurd h (by omega)
/-- both walks of a node, told together -/
def Walks (root : Nat) (l : List NodeT) (c : Nat) : Prop := ∀ (seen : List Bool) (at' : Nat) (low high : ByteArray) (isr : Bool), seen.length = 19 → seen.count false ≤ c → at' < 19 → (isr = true ∧ at' = root ∨ isr = false ∧ seen.getD root false = true) →
  ∃ (d : Int) (seen' : List Bool), seen'.length = 19 ∧ (seen.getD root false = true → seen'.getD root false = true) ∧ seen'.count false ≤ seen.count false ∧ (d = -1 ∨ (1 ≤ d ∧ d ≤ (seen.count false : Int))) ∧ WG l d at' low high isr (seen.count false) (seen'.count false) ∧
    Ev (fun k => F40 k root l at' low high isr seen) ((d, ()), (((), (), ()), (), (), (), (), seen', ())) ∧
    ∀ (D δ : Int), 0 ≤ D → D ≤ 1000 → 1 ≤ δ → δ + seen.count false ≤ 1000 → ∃ out, Ev (fun k => F52 k root l seen D at' δ low high) out ∧
      ((1 ≤ d ∧ (D = 0 ∨ D = δ + d - 1) ∧ out = ((true, ()), (((root : Int), l, seen', δ + d - 1, ()), (), (), (), (), ()))) ∨ (¬ (1 ≤ d ∧ (D = 0 ∨ D = δ + d - 1)) ∧ out.1.1 = false))
section
variable {root : Nat} {l : List NodeT} {low high : ByteArray} {leaf : Bool} {keys vals : List ByteArray} {kids : List Int} {c : Nat}
/-- the kids from the second on -/
theorem kids_loop (hW : Walks root l c) (hlen : kids.length = keys.length + 1) (hl : keys.length ≤ 1048576) (hr : ∀ i, i < kids.length → 0 ≤ kids.getD i 0 ∧ kids.getD i 0 ≤ 18) :
    ∀ (m i : Nat) (seen : List Bool) (deep : Int), i + m = kids.length → seen.length = 19 → seen.count false ≤ c → seen.getD root false = true → 1 ≤ deep → deep ≤ 500 →
    ∃ (d : Int) (seen' : List Bool), seen'.length = 19 ∧ seen'.getD root false = true ∧ seen'.count false ≤ seen.count false ∧ (d = -1 ∨ d = deep + 1) ∧ (d = deep + 1 → (∀ j, i ≤ j → j < kids.length → ∃ kid : Nat, kids.getD j 0 = (kid : Int) ∧ kid < 19 ∧ Gd l deep.toNat kid (lo keys low j) (hi' keys high j) false) ∧ seen'.count false + m * cost false deep.toNat ≤ seen.count false) ∧
      Ev (fun k => F40c11 k low high seen root l leaf keys vals kids deep (i : Int)) ((d, ()), (((), (), ()), (), (), (), (), seen', ())) ∧
      ∀ δ : Int, 1 ≤ δ → δ + 1 + seen.count false ≤ 1000 → δ + deep ≤ 1000 → ∃ out, Ev (fun k => F52c16 k root l seen (δ + deep) δ low high leaf keys vals kids kids (kids.length : Int) (i : Int)) out ∧
        ((d = deep + 1 ∧ out = ((true, ()), (((root : Int), l, seen', δ + deep, ()), (), (), (), (), ()))) ∨ (d = -1 ∧ out.1.1 = false)) := by
  intro m
  induction m with
  | zero =>
    intro i seen deep hi hs hc hroot hd hd'
    refine ⟨deep + 1, seen, hs, hroot, Nat.le_refl _, .inr rfl, fun _ => ⟨fun j h1 h2 => by omega, by omega⟩, ?_, fun δ h1 h2 h3 => ⟨_, ?_, .inl ⟨rfl, rfl⟩⟩⟩
    · refine Ev.step 1 (fun k => F40c11_eq k _ _ _ _ _ _ _ _ _ _ _) ?_
      simp only [lt_false (show kids.length ≤ i by omega), Bool.false_eq_true, if_false, wrap64 (n := deep + 1) (by omega) (by omega)]
      exact Ev.now _
    · refine Ev.step 1 (fun k => F52c16_eq k _ _ _ _ _ _ _ _ _ _ _ _ _ _) ?_
      simp only [lt_false (show kids.length ≤ i by omega), Bool.false_eq_true, if_false]
      exact Ev.now _
  | succ m ih =>
    intro i seen deep hi hs hc hroot hd hd'
    have hik : i < kids.length := by omega
    obtain ⟨hk0, hk1⟩ := hr i hik
    obtain ⟨kid, hkid⟩ : ∃ kid : Nat, kids.getD i 0 = (kid : Int) := ⟨(kids.getD i 0).toNat, by omega⟩
    obtain ⟨d1, s1, a1, a2, a3, a4, ag, a5, a6⟩ := hW seen kid (lo keys low i) (hi' keys high i) false hs hc (by omega) (.inr ⟨rfl, hroot⟩)
    rw [← hkid] at a5 a6
    have step1 := fun {q} => spec_step (q := q) (root := root) (l := l) (low := low) (high := high) (leaf := leaf) (vals := vals) (deep := deep) hik (by omega) hl a5
    have dpos : decide (deep > 0) = true := by simp; omega
    rcases a4 with a4 | ⟨a4, a4'⟩
    · subst a4
      refine ⟨-1, s1, a1, a2 hroot, a3, .inl rfl, fun h => absurd h (by omega), step1 ?_, fun δ h1 h2 h3 => ?_⟩
      · exact Ev.now _
      · obtain ⟨out, b1, b2⟩ := a6 (δ + deep) (δ + 1) (by omega) (by omega) (by omega) (by omega)
        rcases b2 with ⟨b2, _⟩ | ⟨_, b2⟩
        · omega
        · refine ⟨((false, ()), ((out.2.1.1, out.2.1.2.1, out.2.1.2.2.1, out.2.1.2.2.2.1, ()), (), (), (), (), ())), impl_step (r10 := out) hik (by omega) hl (by omega) (by omega) b1 ?_, .inr ⟨rfl, rfl⟩⟩
          simp only [b2, Bool.not_false, if_true]
          exact Ev.now _
    · have hneg : decide (d1 < 0) = false := by simp; omega
      by_cases hdd : d1 = deep
      · subst hdd
        obtain ⟨d2, s2, c1, c2, c3, c4, cg, c5, c6⟩ := ih (i + 1) s1 d1 (by omega) a1 (by omega) (a2 hroot) hd hd'
        refine ⟨d2, s2, c1, c2, by omega, c4, fun h => by
          obtain ⟨g1, g2⟩ := cg h
          obtain ⟨g3, g4⟩ := ag (by omega)
          refine ⟨fun j hj1 hj2 => ?_, by rw [Nat.add_mul, Nat.one_mul]; omega⟩
          rcases Nat.eq_or_lt_of_le hj1 with rfl | hj
          · exact ⟨kid, hkid, by omega, g3⟩
          · exact g1 j hj hj2, step1 ?_, fun δ h1 h2 h3 => ?_⟩
        · simp only [hneg, dpos, bne_self_eq_false, Bool.false_eq_true, if_false, if_true]
          exact c5
        · obtain ⟨out, b1, b2⟩ := a6 (δ + d1) (δ + 1) (by omega) (by omega) (by omega) (by omega)
          obtain ⟨out2, e1, e2⟩ := c6 δ h1 (by omega) h3
          rcases b2 with ⟨_, _, b2⟩ | ⟨b2, _⟩
          · subst b2
            refine ⟨out2, impl_step hik (by omega) hl (by omega) (by omega) b1 ?_, e2⟩
            simp only [Bool.not_true, Bool.false_eq_true, if_false]
            have : δ + 1 + d1 - 1 = δ + d1 := by omega
            rw [this]
            exact e1
          · exact absurd ⟨a4, .inr (by omega)⟩ b2
      · have hne : (d1 != deep) = true := by simp [hdd]
        refine ⟨-1, s1, a1, a2 hroot, a3, .inl rfl, fun h => absurd h (by omega), step1 ?_, fun δ h1 h2 h3 => ?_⟩
        · simp only [hneg, dpos, hne, Bool.false_eq_true, if_false, if_true]
          exact Ev.now _
        · obtain ⟨out, b1, b2⟩ := a6 (δ + deep) (δ + 1) (by omega) (by omega) (by omega) (by omega)
          rcases b2 with ⟨_, b2, _⟩ | ⟨_, b2⟩
          · omega
          · refine ⟨((false, ()), ((out.2.1.1, out.2.1.2.1, out.2.1.2.2.1, out.2.1.2.2.2.1, ()), (), (), (), (), ())), impl_step (r10 := out) hik (by omega) hl (by omega) (by omega) b1 ?_, .inr ⟨rfl, rfl⟩⟩
            simp only [b2, Bool.not_false, if_true]
            exact Ev.now _
end
theorem getB_of {l : List Bool} {i : Nat} (h : i < l.length) : l[i]? = some (l.getD i false) := by
  rw [List.getD_eq_getElem?_getD, List.getElem?_eq_getElem h]
  rfl
theorem getN_of {l : List NodeT} {i : Nat} (h : i < l.length) : l[i]? = some l[i] := List.getElem?_eq_getElem h
theorem count_mark {l : List Bool} {i : Nat} (h : i < l.length) (hf : l.getD i false = false) : (l.set i true).count false + 1 = l.count false := by
  induction l generalizing i with
  | nil => simp at h
  | cons a l ih =>
    cases i with
    | zero =>
      simp at hf
      subst hf
      simp
    | succ i =>
      have := ih (i := i) (by simpa using h) (by simpa using hf)
      simp only [List.set_cons_succ, List.count_cons]
      omega
theorem marked {l : List Bool} {i : Nat} (h : i < l.length) : (l.set i true).getD i false = true := by
  simp [List.getD_eq_getElem?_getD, List.getElem?_set_self h]
theorem mark_keeps {l : List Bool} {i j : Nat} (h : l.getD j false = true) : (l.set i true).getD j false = true := by
  by_cases e : i = j
  · subst e
    have : i < l.length := by
      rcases Nat.lt_or_ge i l.length with h1 | h1
      · exact h1
      · simp [List.getD_eq_getElem?_getD, List.getElem?_eq_none h1] at h
    exact marked this
  · rw [List.getD_eq_getElem?_getD, List.getElem?_set_ne e, ← List.getD_eq_getElem?_getD]
    exact h
section
variable {root : Nat} {l : List NodeT}
/-- bounds of the keys, on the other side -/
theorem F52c6_ev {met : List Bool} {D δ : Int} {low high : ByteArray} {leaf : Bool} {keys vals : List ByteArray} {kids : List Int} (hl : keys.length ≤ 1048576) {q}
    (hyes : inKeys keys low high = true → Ev (fun k => if leaf = true then if (D == (0 : Int)) = true then F52c14 k root l met δ δ else F52c14 k root l met D δ else F52c16 k root l met D δ low high leaf keys vals kids kids (kids.length : Int) (0 : Int)) q) :
    Ev (fun k => F52c6 k root l met D δ low high leaf keys vals kids keys (keys.length : Int) (0 : Int)) (if inKeys keys low high = true then q else ((false, ()), (((root : Int), l, met, D, ()), (), (), (), (), ()))) := by
  refine all_loop' (L := fun k i => F52c6 k root l met D δ low high leaf keys vals kids keys (keys.length : Int) i) ?_ ?_ ?_
  · intro i hi hc
    refine Ev.step 1 (fun k => F52c6_eq k _ _ _ _ _ _ _ _ _ _ _ _ _ _) ?_
    simp only [lt_true hi, ge0, if_true, Int.toNat_natCast, getD_of hi, Option.bind_some]
    unfold inKey at hc
    cases h1 : Op.bytesLess (keys.getD i ByteArray.empty).toList low.toList with
    | true => exact Ev.now _
    | false =>
      rw [h1] at hc
      simp only [Bool.not_false, Bool.true_and, Bool.or_eq_false_iff] at hc
      simp only [hc.1, hc.2, Bool.not_false, Bool.false_eq_true, if_false, if_true]
      exact Ev.now _
  · intro i hi hc r hr
    refine Ev.step 1 (fun k => F52c6_eq k _ _ _ _ _ _ _ _ _ _ _ _ _ _) ?_
    simp only [lt_true hi, ge0, if_true, Int.toNat_natCast, getD_of hi, Option.bind_some]
    unfold inKey at hc
    simp only [Bool.and_eq_true, Bool.not_eq_true', Bool.or_eq_true] at hc
    simp only [hc.1, Bool.false_eq_true, if_false]
    rw [wrap_succ (by omega)]
    cases h2 : (high.toList == (⟨#[]⟩ : ByteArray).toList) with
    | true => exact hr
    | false =>
      rcases hc.2 with hc2 | hc2
      · rw [h2] at hc2; cases hc2
      · simp only [Bool.not_false, if_true, hc2, Bool.not_true, Bool.false_eq_true, if_false]
        exact hr
  · intro hin
    refine Ev.step 1 (fun k => F52c6_eq k _ _ _ _ _ _ _ _ _ _ _ _ _ _) ?_
    simp only [lt_false (Nat.le_refl keys.length), Bool.false_eq_true, if_false]
    exact hyes hin
theorem walks (hn : l.length = 19) (hok : ∀ n, n ∈ l → okNode n) : ∀ c, Walks root l c := by
  intro c
  induction c with
  | zero =>
    intro seen at' low high isr hs hc hat hr
    have hseen : seen.getD at' false = true := by
      cases h : seen.getD at' false with
      | true => rfl
      | false => have := count_mark (by omega) h; omega
    refine ⟨-1, seen, hs, id, Nat.le_refl _, .inl rfl, WG_neg, ?_, fun D δ _ _ _ _ => ⟨((false, ()), (((root : Int), l, seen, D, ()), (), (), (), (), ())), ?_, .inr ⟨by omega, rfl⟩⟩⟩
    · refine Ev.step 2 (fun k => F40_eq k _ _ _ _ _ _ _) ?_
      simp only [ge0, lt_true (show at' < seen.length by omega), Bool.and_self, if_true, Int.toNat_natCast, getB_of (show at' < seen.length by omega), Option.bind_some, hseen]
      exact Ev.now _
    · refine Ev.step 2 (fun k => F52_eq k _ _ _ _ _ _ _ _) ?_
      simp only [ge0, lt_true (show at' < seen.length by omega), Bool.and_self, if_true, Int.toNat_natCast, getN_of (show at' < l.length by omega), getB_of (show at' < seen.length by omega), Option.bind_some, hseen]
      exact Ev.now _
  | succ c ih =>
    intro seen at' low high isr hs hc hat hr
    have hlt : at' < seen.length := by omega
    have hltl : at' < l.length := by omega
    cases hseen : seen.getD at' false with
    | true =>
      refine ⟨-1, seen, hs, id, Nat.le_refl _, .inl rfl, WG_neg, ?_, fun D δ _ _ _ _ => ⟨((false, ()), (((root : Int), l, seen, D, ()), (), (), (), (), ())), ?_, .inr ⟨by omega, rfl⟩⟩⟩
      · refine Ev.step 2 (fun k => F40_eq k _ _ _ _ _ _ _) ?_
        simp only [ge0, lt_true hlt, Bool.and_self, if_true, Int.toNat_natCast, getB_of hlt, Option.bind_some, hseen]
        exact Ev.now _
      · refine Ev.step 2 (fun k => F52_eq k _ _ _ _ _ _ _ _) ?_
        simp only [ge0, lt_true hlt, Bool.and_self, if_true, Int.toNat_natCast, getN_of hltl, getB_of hlt, Option.bind_some, hseen]
        exact Ev.now _
    | false =>
      have hcount := count_mark hlt hseen
      have hs1 : (seen.set at' true).length = 19 := by simpa using hs
      have hroot : seen.getD root false = true → (seen.set at' true).getD root false = true := fun h => mark_keeps h
      have hbne : ((at' : Int) != (root : Int)) = !isr := by
        rcases hr with ⟨h1, h2⟩ | ⟨h1, h2⟩
        · rw [h1, h2]; simp
        · have : at' ≠ root := fun e => by rw [e, h2] at hseen; cases hseen
          rw [h1]
          simp
          omega
      have hroot1 : (seen.set at' true).getD root false = true := by
        rcases hr with ⟨_, h2⟩ | ⟨_, h2⟩
        · rw [← h2]; exact marked hlt
        · exact mark_keeps h2
      obtain ⟨n, hnn⟩ : ∃ n, l[at'] = n := ⟨_, rfl⟩
      have hokn : okNode n := hnn ▸ hok _ (List.getElem_mem hltl)
      have specS : ∀ {q}, Ev (fun k => (F58 k n.1 n.2.1 n.2.2.1 n.2.2.2.1).bind fun r4 => if (!r4.1.1) = true then some (((-1 : Int), ()), (((), (), ()), (), (), (), (), seen.set at' true, ())) else (F59 k n.2.1 low high).bind fun r5 => if (!r5.1.1) = true then some (((-1 : Int), ()), (((), (), ()), (), (), (), (), seen.set at' true, ())) else
          if (!isr) = true then if (decide ((n.2.1.length : Int) < (2 : Int))) = true then some (((-1 : Int), ()), (((), (), ()), (), (), (), (), seen.set at' true, ())) else if n.1 = true then some (((1 : Int), ()), (((), (), ()), (), (), (), (), seen.set at' true, ())) else F40c11 k low high (seen.set at' true) root l n.1 n.2.1 n.2.2.1 n.2.2.2.1 (0 : Int) (0 : Int)
          else if n.1 = true then some (((1 : Int), ()), (((), (), ()), (), (), (), (), seen.set at' true, ())) else F40c11 k low high (seen.set at' true) root l n.1 n.2.1 n.2.2.1 n.2.2.2.1 (0 : Int) (0 : Int)) q → Ev (fun k => F40 k root l at' low high isr seen) q := by
        intro q hq
        refine Ev.step 2 (fun k => F40_eq k _ _ _ _ _ _ _) ?_
        simp only [ge0, lt_true hlt, Bool.and_self, if_true, Int.toNat_natCast, getB_of hlt, getN_of hltl, hnn, Option.bind_some, hseen, Bool.false_eq_true, if_false]
        exact hq
      have implS : ∀ {D δ q}, Ev (fun k => (F68 k n.1 n.2.1 n.2.2.1 n.2.2.2.1).bind fun r3 => if (!r3.1.1) = true then some ((false, ()), (((root : Int), l, seen, D, ()), (), (), (), (), ())) else
          if (!isr) = true then if (decide ((n.2.1.length : Int) < (2 : Int))) = true then some ((false, ()), (((root : Int), l, seen, D, ()), (), (), (), (), ())) else F52c6 k root l (seen.set at' true) D δ low high n.1 n.2.1 n.2.2.1 n.2.2.2.1 n.2.1 (n.2.1.length : Int) (0 : Int)
          else F52c6 k root l (seen.set at' true) D δ low high n.1 n.2.1 n.2.2.1 n.2.2.2.1 n.2.1 (n.2.1.length : Int) (0 : Int)) q → Ev (fun k => F52 k root l seen D at' δ low high) q := by
        intro D δ q hq
        refine Ev.step 2 (fun k => F52_eq k _ _ _ _ _ _ _ _) ?_
        simp only [ge0, lt_true hlt, Bool.and_self, if_true, Int.toNat_natCast, getB_of hlt, getN_of hltl, hnn, Option.bind_some, hseen, Bool.false_eq_true, if_false, hbne]
        exact hq
      have fail : ∀ {P : Int → List Bool → Prop}, P (-1) (seen.set at' true) → ∃ (d : Int) (seen' : List Bool), seen'.length = 19 ∧ (seen.getD root false = true → seen'.getD root false = true) ∧ seen'.count false ≤ seen.count false ∧ (d = -1 ∨ (1 ≤ d ∧ d ≤ (seen.count false : Int))) ∧ WG l d at' low high isr (seen.count false) (seen'.count false) ∧ P d seen' :=
        fun h => ⟨-1, _, hs1, hroot, by omega, .inl rfl, WG_neg, h⟩
      cases hno : nodeOk n with
      | false =>
        refine fail ⟨specS (Ev.bind (F58_ev n hokn) ?_), fun D δ _ _ _ _ => ⟨((false, ()), (((root : Int), l, seen, D, ()), (), (), (), (), ())), implS (Ev.bind (F68_ev n hokn) ?_), .inr ⟨by omega, rfl⟩⟩⟩
        · simp only [hno, Bool.not_false, if_true]
          exact Ev.now _
        · simp only [hno, Bool.not_false, if_true]
          exact Ev.now _
      | true =>
        have hkl : n.2.1.length ≤ 1048576 := hokn.1
        cases hin : inKeys n.2.1 low high with
        | false =>
          refine fail ⟨specS (Ev.bind (F58_ev n hokn) ?_), fun D δ _ _ _ _ => ?_⟩
          · simp only [hno, Bool.not_true, Bool.false_eq_true, if_false]
            refine Ev.bind (F59_ev n.2.1 hokn.1 low high) ?_
            simp only [hin, Bool.not_false, if_true]
            exact Ev.now _
          · have h6 := F52c6_ev (root := root) (l := l) (met := seen.set at' true) (D := D) (δ := δ) (low := low) (high := high) (leaf := n.1) (keys := n.2.1) (vals := n.2.2.1) (kids := n.2.2.2.1) hkl (q := ((false, ()), (((root : Int), l, seen.set at' true, D, ()), (), (), (), (), ()))) (fun h => by rw [hin] at h; cases h)
            rw [hin] at h6
            simp only [Bool.false_eq_true, if_false] at h6
            by_cases hsh : (!isr) = true ∧ decide ((n.2.1.length : Int) < 2) = true
            · refine ⟨((false, ()), (((root : Int), l, seen, D, ()), (), (), (), (), ())), implS (Ev.bind (F68_ev n hokn) ?_), .inr ⟨by omega, rfl⟩⟩
              · simp only [hno, Bool.not_true, Bool.false_eq_true, if_false, hsh.1, hsh.2, if_true]
                exact Ev.now _
            · refine ⟨((false, ()), (((root : Int), l, seen.set at' true, D, ()), (), (), (), (), ())), implS (Ev.bind (F68_ev n hokn) ?_), .inr ⟨by omega, rfl⟩⟩
              · simp only [hno, Bool.not_true, Bool.false_eq_true, if_false]
                cases h1 : (!isr) with
                | false => exact h6
                | true =>
                  have h2 : decide ((n.2.1.length : Int) < 2) = false := by
                    cases h3 : decide ((n.2.1.length : Int) < 2) with
                    | false => rfl
                    | true => exact absurd ⟨h1, h3⟩ hsh
                  simp only [if_true, h2, Bool.false_eq_true, if_false]
                  exact h6
        | true =>
          by_cases hsh : (!isr) = true ∧ decide ((n.2.1.length : Int) < 2) = true
          · refine fail ⟨specS (Ev.bind (F58_ev n hokn) ?_), fun D δ _ _ _ _ => ⟨((false, ()), (((root : Int), l, seen, D, ()), (), (), (), (), ())), implS (Ev.bind (F68_ev n hokn) ?_), .inr ⟨by omega, rfl⟩⟩⟩
            · simp only [hno, Bool.not_true, Bool.false_eq_true, if_false]
              refine Ev.bind (F59_ev n.2.1 hokn.1 low high) ?_
              simp only [hin, Bool.not_true, Bool.false_eq_true, if_false, hsh.1, hsh.2, if_true]
              exact Ev.now _
            · simp only [hno, Bool.not_true, Bool.false_eq_true, if_false, hsh.1, hsh.2, if_true]
              exact Ev.now _
          · have hsh' : isr = true ∨ 2 ≤ n.2.1.length := by
              rcases Nat.lt_or_ge n.2.1.length 2 with h2 | h2
              · refine .inl ?_
                cases h1 : isr with
                | true => rfl
                | false => exact absurd ⟨by rw [h1]; rfl, by simp; omega⟩ hsh
              · exact .inr h2
            have spec2 : ∀ {q}, Ev (fun k => if n.1 = true then some (((1 : Int), ()), (((), (), ()), (), (), (), (), seen.set at' true, ())) else F40c11 k low high (seen.set at' true) root l n.1 n.2.1 n.2.2.1 n.2.2.2.1 (0 : Int) (0 : Int)) q → Ev (fun k => F40 k root l at' low high isr seen) q := by
              intro q hq
              refine specS (Ev.bind (F58_ev n hokn) ?_)
              simp only [hno, Bool.not_true, Bool.false_eq_true, if_false]
              refine Ev.bind (F59_ev n.2.1 hokn.1 low high) ?_
              simp only [hin, Bool.not_true, Bool.false_eq_true, if_false]
              cases h1 : (!isr) with
              | false => exact hq
              | true =>
                have h2 : decide ((n.2.1.length : Int) < 2) = false := by
                  cases h3 : decide ((n.2.1.length : Int) < 2) with
                  | false => rfl
                  | true => exact absurd ⟨h1, h3⟩ hsh
                simp only [if_true, h2, Bool.false_eq_true, if_false]
                exact hq
            have impl2 : ∀ {D δ q}, Ev (fun k => if n.1 = true then if (D == (0 : Int)) = true then F52c14 k root l (seen.set at' true) δ δ else F52c14 k root l (seen.set at' true) D δ else F52c16 k root l (seen.set at' true) D δ low high n.1 n.2.1 n.2.2.1 n.2.2.2.1 n.2.2.2.1 (n.2.2.2.1.length : Int) (0 : Int)) q → Ev (fun k => F52 k root l seen D at' δ low high) q := by
              intro D δ q hq
              have h6 := F52c6_ev (root := root) (l := l) (met := seen.set at' true) (D := D) (δ := δ) (low := low) (high := high) (leaf := n.1) (keys := n.2.1) (vals := n.2.2.1) (kids := n.2.2.2.1) hkl (fun _ => hq)
              rw [hin] at h6
              simp only [if_true] at h6
              refine implS (Ev.bind (F68_ev n hokn) ?_)
              simp only [hno, Bool.not_true, Bool.false_eq_true, if_false]
              cases h1 : (!isr) with
              | false => exact h6
              | true =>
                have h2 : decide ((n.2.1.length : Int) < 2) = false := by
                  cases h3 : decide ((n.2.1.length : Int) < 2) with
                  | false => rfl
                  | true => exact absurd ⟨h1, h3⟩ hsh
                simp only [if_true, h2, Bool.false_eq_true, if_false]
                exact h6
            cases hleaf : n.1 with
            | true =>
              simp only [hleaf, if_true] at spec2 impl2
              refine ⟨1, _, hs1, hroot, by omega, .inr ⟨by omega, by omega⟩, fun _ => by
                show Gd l (0 + 1) at' low high isr ∧ _ + cost isr 1 ≤ _
                rw [cost_one]
                exact ⟨Gd_succ.2 ⟨n, hnn ▸ List.getElem?_eq_getElem hltl, hno, hin, hsh', .inl ⟨hleaf, rfl⟩⟩, by omega⟩, spec2 (Ev.now _), fun D δ h1 h2 h3 h4 => ?_⟩
              cases hD : (D == (0 : Int)) with
              | true =>
                have hD' : D = 0 := by simpa using hD
                refine ⟨((true, ()), (((root : Int), l, seen.set at' true, δ + 1 - 1, ()), (), (), (), (), ())), impl2 ?_, .inl ⟨by omega, .inl hD', rfl⟩⟩
                simp only [hD, if_true]
                have e : δ + 1 - 1 = δ := by omega
                rw [e]
                refine Ev.step 1 (fun k => F52c14_eq k _ _ _ _ _) ?_
                simp only [beq_self_eq_true]
                exact Ev.now _
              | false =>
                have hD' : D ≠ 0 := by simpa using hD
                by_cases hDδ : D = δ
                · subst hDδ
                  refine ⟨((true, ()), (((root : Int), l, seen.set at' true, D + 1 - 1, ()), (), (), (), (), ())), impl2 ?_, .inl ⟨by omega, .inr (by omega), rfl⟩⟩
                  simp only [hD, Bool.false_eq_true, if_false]
                  have e : D + 1 - 1 = D := by omega
                  rw [e]
                  refine Ev.step 1 (fun k => F52c14_eq k _ _ _ _ _) ?_
                  simp only [beq_self_eq_true]
                  exact Ev.now _
                · refine ⟨((D == δ, ()), (((root : Int), l, seen.set at' true, D, ()), (), (), (), (), ())), impl2 ?_, .inr ⟨by omega, by simpa using hDδ⟩⟩
                  simp only [hD, Bool.false_eq_true, if_false]
                  exact Ev.step 1 (fun k => F52c14_eq k _ _ _ _ _) (Ev.now _)
            | false =>
              simp only [hleaf, Bool.false_eq_true, if_false] at spec2 impl2
              have hk := hno
              unfold nodeOk at hk
              simp only [hleaf, Bool.false_eq_true, if_false, Bool.and_eq_true, beq_iff_eq, decide_eq_true_eq] at hk
              obtain ⟨_, ⟨⟨hk1, _⟩, hk2⟩, hk3⟩ := hk
              have hlen : n.2.2.2.1.length = n.2.1.length + 1 := by omega
              have hrng : ∀ i, i < n.2.2.2.1.length → 0 ≤ n.2.2.2.1.getD i 0 ∧ n.2.2.2.1.getD i 0 ≤ 18 := by
                intro i hi
                have := List.all_eq_true.1 hk1 i (by simpa using hi)
                unfold inNode at this
                simp only [Bool.and_eq_true, decide_eq_true_eq] at this
                exact ⟨this.1, this.2⟩
              have h0k : 0 < n.2.2.2.1.length := by omega
              obtain ⟨hr0, hr1⟩ := hrng 0 h0k
              obtain ⟨kid, hkid⟩ : ∃ kid : Nat, n.2.2.2.1.getD 0 0 = (kid : Int) := ⟨(n.2.2.2.1.getD 0 0).toNat, by omega⟩
              obtain ⟨d1, s1, a1, a2, a3, a4, ag, a5, a6⟩ := ih (seen.set at' true) kid (lo n.2.1 low 0) (hi' n.2.1 high 0) false hs1 (by omega) (by omega) (.inr ⟨rfl, hroot1⟩)
              rw [← hkid] at a5 a6
              have st := fun {q} => spec_step (q := q) (root := root) (l := l) (low := low) (high := high) (leaf := false) (vals := n.2.2.1) (deep := 0) h0k (by omega) hkl a5
              rcases a4 with a4 | ⟨a4, a4'⟩
              · subst a4
                refine ⟨-1, s1, a1, fun _ => a2 hroot1, by omega, .inl rfl, WG_neg, spec2 (st ?_), fun D δ h1 h2 h3 h4 => ?_⟩
                · exact Ev.now _
                · obtain ⟨out, b1, b2⟩ := a6 D (δ + 1) h1 h2 (by omega) (by omega)
                  rcases b2 with ⟨b2, _⟩ | ⟨_, b2⟩
                  · omega
                  · refine ⟨((false, ()), ((out.2.1.1, out.2.1.2.1, out.2.1.2.2.1, out.2.1.2.2.2.1, ()), (), (), (), (), ())), impl2 (impl_step (r10 := out) (i := 0) h0k (by omega) hkl (by omega) (by omega) b1 ?_), .inr ⟨by omega, rfl⟩⟩
                    simp only [b2, Bool.not_false, if_true]
                    exact Ev.now _
              · have hneg : decide (d1 < 0) = false := by simp; omega
                have hz : decide ((0 : Int) > 0) = false := by decide
                obtain ⟨d2, s2, c1, c2, c3, c4, cg, c5, c6⟩ := kids_loop (low := low) (high := high) (leaf := false) (vals := n.2.2.1) ih hlen hkl hrng (n.2.2.2.1.length - 1) 1 s1 d1 (by omega) a1 (by omega) (a2 hroot1) a4 (by
                  have : (seen.set at' true).count false ≤ 19 := by rw [← hs1]; exact List.count_le_length
                  omega)
                refine ⟨d2, s2, c1, fun _ => c2, by omega, ?_, fun _ => by
                  have hd2 : d2 = d1 + 1 := by rcases c4 with c4 | c4 <;> omega
                  obtain ⟨g1, g2⟩ := cg hd2
                  obtain ⟨g3, g4⟩ := ag (by omega)
                  have e1 : d2.toNat = d1.toNat + 1 := by omega
                  rw [e1]
                  refine ⟨Gd_succ.2 ⟨n, hnn ▸ List.getElem?_eq_getElem hltl, hno, hin, hsh', .inr ⟨hleaf, hlen, fun i hi => ?_⟩⟩, cost_step (K := n.2.2.2.1.length - 1) (hsh'.imp_right (fun h => by omega)) (by omega) g2 g4 hcount⟩
                  rcases Nat.eq_zero_or_pos i with rfl | h0
                  · exact ⟨kid, hkid, by omega, g3⟩
                  · exact g1 i h0 hi, spec2 (st ?_), fun D δ h1 h2 h3 h4 => ?_⟩
                · rcases c4 with c4 | c4
                  · exact .inl c4
                  · exact .inr ⟨by omega, by omega⟩
                · simp only [hneg, hz, Bool.false_eq_true, if_false]
                  exact c5
                · obtain ⟨out, b1, b2⟩ := a6 D (δ + 1) h1 h2 (by omega) (by omega)
                  rcases b2 with ⟨_, b3, b2⟩ | ⟨b3, b2⟩
                  · obtain ⟨out2, e1, e2⟩ := c6 δ h3 (by omega) (by omega)
                    subst b2
                    refine ⟨out2, impl2 (impl_step (i := 0) h0k (by omega) hkl (by omega) (by omega) b1 ?_), ?_⟩
                    · simp only [Bool.not_true, Bool.false_eq_true, if_false]
                      have e : δ + 1 + d1 - 1 = δ + d1 := by omega
                      rw [e]
                      exact e1
                    · rcases e2 with ⟨e2, e3⟩ | ⟨e2, e3⟩
                      · refine .inl ⟨by omega, by omega, ?_⟩
                        have e : δ + d2 - 1 = δ + d1 := by omega
                        rw [e]
                        exact e3
                      · exact .inr ⟨by omega, e3⟩
                  · refine ⟨((false, ()), ((out.2.1.1, out.2.1.2.1, out.2.1.2.2.1, out.2.1.2.2.2.1, ()), (), (), (), (), ())), impl2 (impl_step (r10 := out) (i := 0) h0k (by omega) hkl (by omega) (by omega) b1 ?_), .inr ⟨?_, rfl⟩⟩
                    · simp only [b2, Bool.not_false, if_true]
                      exact Ev.now _
                    · intro hh
                      refine b3 ⟨a4, ?_⟩
                      omega
end
end Go.Proofs.Ytcolgghllacloaa.R
end

section
/-! Rf, trees: how deep a tree is, on both sides. -/
set_option autoImplicit false
namespace Go.Proofs.Ytcolgghllacloaa.R
open Go.Rf

def goodAt (seen : List Bool) (l : List NodeT) (i : Nat) : Bool := seen.getD i false || nodeZero (l.getD i (false, [], [], [], ()))
theorem getNd_of {l : List NodeT} {i : Nat} (h : i < l.length) : l[i]? = some (l.getD i (false, [], [], [], ())) := by
  rw [List.getD_eq_getElem?_getD, List.getElem?_eq_getElem h]
  rfl
theorem F24c6_ev {root : Int} {l : List NodeT} {seen : List Bool} {d : Int} (hs : seen.length = 19) (hn : l.length = 19) : Ev (fun k => F24c6 k root l seen d 0) (if (List.range seen.length).all (goodAt seen l) = true then ((d, ()), (((), (), ()), ())) else (((-1 : Int), ()), (((), (), ()), ()))) := by
  refine all_loop (L := fun k i => F24c6 k root l seen d i) ?_ ?_ ?_
  · intro i hi hc
    refine Ev.step 1 (fun k => F24c6_eq k root l seen d i) ?_
    unfold goodAt at hc
    simp only [Bool.or_eq_false_iff] at hc
    simp only [lt_true hi, ge0, Bool.and_self, if_true, Int.toNat_natCast, getB_of hi, getNd_of (show i < l.length by omega), Option.bind_some, hc.1, Bool.not_false]
    refine Ev.bind (F41_ev _) ?_
    simp only [hc.2, Bool.not_false, if_true]
    exact Ev.now _
  · intro i hi hc r hr
    refine Ev.step 1 (fun k => F24c6_eq k root l seen d i) ?_
    unfold goodAt at hc
    simp only [lt_true hi, ge0, Bool.and_self, if_true, Int.toNat_natCast, getB_of hi, getNd_of (show i < l.length by omega), Option.bind_some]
    rw [wrap_succ (by omega)]
    cases h1 : seen.getD i false with
    | true => exact hr
    | false =>
      rw [h1, Bool.false_or] at hc
      simp only [Bool.not_false, if_true]
      refine Ev.bind (F41_ev _) ?_
      simp only [hc, Bool.not_true, Bool.false_eq_true, if_false]
      exact hr
  · refine Ev.step 1 (fun k => F24c6_eq k root l seen d seen.length) ?_
    simp only [lt_false (Nat.le_refl seen.length), Bool.false_eq_true, if_false]
    exact Ev.now _
theorem F34c7_ev {root : Int} {l : List NodeT} {seen : List Bool} {d : Int} (hs : seen.length = 19) (hn : l.length = 19) : Ev (fun k => F34c7 k root l seen d l (l.length : Int) 0) (if (List.range l.length).all (goodAt seen l) = true then ((d, ()), (((), (), ()), ())) else (((0 : Int), ()), (((), (), ()), ()))) := by
  refine all_loop (L := fun k i => F34c7 k root l seen d l (l.length : Int) i) ?_ ?_ ?_
  · intro i hi hc
    have hi2 : i < seen.length := by omega
    refine Ev.step 1 (fun k => F34c7_eq k root l seen d l _ i) ?_
    unfold goodAt at hc
    simp only [Bool.or_eq_false_iff] at hc
    simp only [lt_true hi, lt_true hi2, ge0, Bool.and_self, if_true, Int.toNat_natCast, getB_of hi2, getNd_of hi, Option.bind_some, hc.1, Bool.not_false]
    refine Ev.bind (F53_ev _) ?_
    simp only [hc.2, Bool.not_false, if_true]
    exact Ev.now _
  · intro i hi hc r hr
    have hi2 : i < seen.length := by omega
    refine Ev.step 1 (fun k => F34c7_eq k root l seen d l _ i) ?_
    unfold goodAt at hc
    simp only [lt_true hi, lt_true hi2, ge0, Bool.and_self, if_true, Int.toNat_natCast, getB_of hi2, getNd_of hi, Option.bind_some]
    rw [wrap_succ (by omega)]
    cases h1 : seen.getD i false with
    | true => exact hr
    | false =>
      rw [h1, Bool.false_or] at hc
      simp only [Bool.not_false, if_true]
      refine Ev.bind (F53_ev _) ?_
      simp only [hc, Bool.not_true, Bool.false_eq_true, if_false]
      exact hr
  · refine Ev.step 1 (fun k => F34c7_eq k root l seen d l _ l.length) ?_
    simp only [lt_false (Nat.le_refl l.length), Bool.false_eq_true, if_false]
    exact Ev.now _
/-- what a depth tells of a tree -/
def Sound (l : List NodeT) (t : Int) (d : Nat) : Prop := l.length = 19 ∧ ∃ root : Nat, t = (root : Int) ∧ root < 19 ∧ Gd l d root (⟨#[]⟩ : ByteArray) (⟨#[]⟩ : ByteArray) true ∧ cost true d ≤ 19
theorem deep_ev' (t : Int) (l : List NodeT) (hok : ∀ n, n ∈ l → okNode n) : ∃ v : Int, (v = -1 ∨ 1 ≤ v) ∧ (1 ≤ v → Sound l t v.toNat) ∧ Ev (fun k => F24 k t l) ((v, ()), (((), (), ()), ())) ∧ Ev (fun k => F34 k t l) ((if v < 0 then 0 else v, ()), (((), (), ()), ())) := by
  by_cases hn : l.length = 19
  · have hne : ((l.length : Int) != 19) = false := by simp [hn]
    by_cases hw : inNode t 0 18 = true
    · have ht : 0 ≤ t ∧ t ≤ 18 := by
        unfold inNode at hw
        simpa using hw
      obtain ⟨root, rfl⟩ : ∃ r : Nat, t = (r : Int) := ⟨t.toNat, by omega⟩
      have hc19 : (List.replicate 19 false).count false = 19 := by decide
      obtain ⟨d, s, a1, _, _, a4, ag, a5, a6⟩ := walks (root := root) hn hok 19 (List.replicate 19 false) root (⟨#[]⟩ : ByteArray) (⟨#[]⟩ : ByteArray) true (by simp) (by omega) (by omega) (.inl ⟨rfl, rfl⟩)
      obtain ⟨out, b1, b2⟩ := a6 0 1 (by omega) (by omega) (by omega) (by omega)
      have hmk : (decide (0 ≤ (19 : Int)) && decide ((19 : Int) ≤ (19 : Int)) && decide ((19 : Int) ≤ (140737488355328 : Int))) = true := by decide
      have e88 : ∀ {q}, Ev (fun k => F24c6 k root l s d 0) q → Ev (fun k => F24 k root l) q := by
        intro q hq
        refine Ev.step 2 (fun k => F24_eq k root l) ?_
        simp only [hne, Bool.false_eq_true, if_false]
        refine Ev.bind (F39_ev _ 0 18) ?_
        simp only [hw, Bool.not_true, Bool.false_eq_true, if_false, hmk, if_true]
        exact Ev.bind a5 hq
      have e90 : ∀ {q}, Ev (fun k => if (!out.1.1) = true then some (((0 : Int), ()), (((), (), ()), ())) else F34c7 k out.2.1.1 out.2.1.2.1 out.2.1.2.2.1 out.2.1.2.2.2.1 l (l.length : Int) (0 : Int)) q → Ev (fun k => F34 k root l) q := by
        intro q hq
        refine Ev.step 2 (fun k => F34_eq k root l) ?_
        simp only [hne, Bool.false_eq_true, if_false]
        refine Ev.bind (F51_ev _ 0 18) ?_
        simp only [hw, Bool.not_true, Bool.false_eq_true, if_false, hmk, if_true]
        exact Ev.bind b1 hq
      have h88 := e88 (F24c6_ev (root := root) (d := d) a1 hn)
      rcases a4 with a4 | ⟨a4, a4'⟩
      · subst a4
        refine ⟨-1, .inl rfl, fun h => absurd h (by omega), ?_, e90 ?_⟩
        · have : (if (List.range s.length).all (goodAt s l) = true then (((-1 : Int), ()), (((), (), ()), ())) else (((-1 : Int), ()), (((), (), ()), ()))) = (((-1 : Int), ()), ((((), (), ()) : Unit × Unit × Unit), ())) := by split <;> rfl
          rw [this] at h88
          exact h88
        · rcases b2 with ⟨b2, _⟩ | ⟨_, b2⟩
          · omega
          · simp only [b2, Bool.not_false, if_true]
            exact Ev.now _
      · rcases b2 with ⟨_, _, b2⟩ | ⟨b2, _⟩
        · subst b2
          have h90 := e90 (by
            simp only [Bool.not_true, Bool.false_eq_true, if_false]
            exact F34c7_ev (root := root) (d := 1 + d - 1) a1 hn)
          rw [a1] at h88
          rw [hn] at h90
          cases hall : (List.range 19).all (goodAt s l) with
          | true =>
            rw [hall] at h88 h90
            simp only [if_true] at h88 h90
            refine ⟨d, .inr a4, fun _ => ⟨hn, root, rfl, by omega, (ag a4).1, by have := (ag a4).2; omega⟩, h88, ?_⟩
            rw [if_neg (by omega)]
            have e : 1 + d - 1 = d := by omega
            rw [e] at h90
            exact h90
          | false =>
            rw [hall] at h88 h90
            simp only [Bool.false_eq_true, if_false] at h88 h90
            exact ⟨-1, .inl rfl, fun h => absurd h (by omega), h88, h90⟩
        · exact absurd ⟨a4, .inl rfl⟩ b2
    · have hw' : inNode t 0 18 = false := by simpa using hw
      refine ⟨-1, .inl rfl, fun h => absurd h (by omega), ?_, ?_⟩
      · refine Ev.step 2 (fun k => F24_eq k t l) ?_
        simp only [hne, Bool.false_eq_true, if_false]
        refine Ev.bind (F39_ev _ 0 18) ?_
        simp only [hw', Bool.not_false, if_true]
        exact Ev.now _
      · refine Ev.step 2 (fun k => F34_eq k t l) ?_
        simp only [hne, Bool.false_eq_true, if_false]
        refine Ev.bind (F51_ev _ 0 18) ?_
        simp only [hw', Bool.not_false, if_true]
        exact Ev.now _
  · have hne : ((l.length : Int) != 19) = true := by simp; omega
    refine ⟨-1, .inl rfl, fun h => absurd h (by omega), ?_, ?_⟩
    · refine Ev.step 2 (fun k => F24_eq k t l) ?_
      simp only [hne, if_true]
      exact Ev.now _
    · refine Ev.step 2 (fun k => F34_eq k t l) ?_
      simp only [hne, if_true]
      exact Ev.now _
theorem deep_ev (t : Int) (l : List NodeT) (hok : ∀ n, n ∈ l → okNode n) : ∃ v : Int, (v = -1 ∨ 1 ≤ v) ∧ Ev (fun k => F24 k t l) ((v, ()), (((), (), ()), ())) ∧ Ev (fun k => F34 k t l) ((if v < 0 then 0 else v, ()), (((), (), ()), ())) := by
  obtain ⟨v, h1, _, h2, h3⟩ := deep_ev' t l hok
  exact ⟨v, h1, h2, h3⟩
/-- what the law's bound of bulk asks of lengths -/
theorem fits_of {l : List NodeT} (h : wfT (.sl (.pair .bool (.pair (.sl .str) (.pair (.sl .str) (.pair (.sl (.int .i64)) .unit))))) l) : l.length ≤ 9223372036854775807 ∧ ∀ n, n ∈ l → fitsN n := by
  have e : maxLen = 9223372036854775807 := by decide
  refine ⟨by have := h.1; omega, fun n hn => ?_⟩
  obtain ⟨_, h2, h3, h4, _⟩ := h.2 n hn
  exact ⟨by have := h2.1; omega, fun y hy => by have : y.size ≤ maxLen := h2.2 y hy; omega, by have := h3.1; omega, fun y hy => by have : y.size ≤ maxLen := h3.2 y hy; omega, by have := h4.1; omega⟩
end Go.Proofs.Ytcolgghllacloaa.R
end

section
/-! Rf: a tree's listing. -/
set_option autoImplicit false
set_option linter.unusedSimpArgs false
set_option linter.unusedVariables false
namespace Go.Proofs.Ytcolgghllacloaa.R
open Go.Rf
open Go.Proofs.Ytcolgghllacloaa.Q (kept leafP leafP_succ leafP_le listF fitL flat_take flat_le)
abbrev PairT : Type := ByteArray × ByteArray × Unit
def toP (l : List (ByteArray × ByteArray)) : List PairT := l.map fun p => (p.1, p.2, ())
theorem toP_app (l m : List (ByteArray × ByteArray)) : toP (l ++ m) = toP l ++ toP m := List.map_append
theorem toP_len (l : List (ByteArray × ByteArray)) : (toP l).length = l.length := List.length_map _
theorem nodeOk_four {n : NodeT} (h : nodeOk n = true) : n.2.1.length ≤ 4 := by
  unfold nodeOk at h
  simp only [Bool.and_eq_true, decide_eq_true_eq] at h
  have := h.1.2
  omega
theorem nodeOk_leaf {n : NodeT} (h : nodeOk n = true) (hl : n.1 = true) : n.2.2.1.length = n.2.1.length ∧ n.2.2.2.1 = [] := by
  unfold nodeOk at h
  simp only [hl, if_true, Bool.and_eq_true, decide_eq_true_eq, beq_iff_eq] at h
  exact ⟨by omega, List.length_eq_zero_iff.1 (by omega)⟩
theorem nodeOk_inner {n : NodeT} (h : nodeOk n = true) (hl : n.1 = false) : n.2.2.1 = [] ∧ 0 < n.2.1.length ∧ n.2.2.2.1.length = n.2.1.length + 1 := by
  unfold nodeOk at h
  simp only [hl, Bool.false_eq_true, if_false, Bool.and_eq_true, decide_eq_true_eq, beq_iff_eq] at h
  exact ⟨List.length_eq_zero_iff.1 (by omega), by omega, by omega⟩
theorem l9List_leaf {low high : ByteArray} {lf : Bool} {K V : List ByteArray} {I : List Int} (hk : V.length = K.length) (hl : K.length ≤ 1048576) : ∀ (m j : Nat) (out : List PairT), j + m = V.length → out.length + m ≤ 2000000000 →
    Ev (fun k => F25c7 k low high out lf K V I (j : Int)) ((out ++ (toP (leafP low high K V V.length)).drop (leafP low high K V j).length, ()), (((), (), ()), (), (), (), (), ())) := by
  intro m
  induction m with
  | zero =>
    intro j out hj _
    obtain rfl : j = V.length := by omega
    refine Ev.step 1 (fun k => F25c7_eq k _ _ _ _ _ _ _ _) ?_
    simp only [lt_false (Nat.le_refl V.length), Bool.false_eq_true, if_false]
    rw [List.drop_of_length_le (by rw [toP_len]; exact Nat.le_refl _), List.append_nil]
    exact Ev.now _
  | succ m ih =>
    intro j out hj hout
    have hjv : j < V.length := by omega
    have hjk : j < K.length := by omega
    have hpre : ∀ (i : Nat), leafP low high K V i ++ (leafP low high K V V.length).drop (leafP low high K V i).length = leafP low high K V V.length ∨ V.length < i := by
      intro i
      rcases Nat.lt_or_ge V.length i with h | h
      · exact .inr h
      · refine .inl ?_
        obtain ⟨e, he⟩ : ∃ e, V.length = i + e := ⟨V.length - i, by omega⟩
        rw [he]
        clear he
        induction e with
        | zero => simp
        | succ e ih =>
          rw [show i + (e + 1) = i + e + 1 by omega, leafP_succ, List.drop_append, show (leafP low high K V i).length - (leafP low high K V (i + e)).length = 0 by
            have := leafP_le low high K V (show i ≤ i + e by omega); omega, List.drop_zero, ← List.append_assoc, ih]
    have hsplit : (toP (leafP low high K V V.length)).drop (leafP low high K V j).length = toP (if kept low high (K.getD j ByteArray.empty) then [(K.getD j ByteArray.empty, V.getD j ByteArray.empty)] else []) ++ (toP (leafP low high K V V.length)).drop (leafP low high K V (j + 1)).length := by
      have h1 := (hpre j).resolve_right (by omega)
      have h2 := (hpre (j + 1)).resolve_right (by omega)
      have h3 : leafP low high K V j ++ (leafP low high K V V.length).drop (leafP low high K V j).length = leafP low high K V j ++ ((if kept low high (K.getD j ByteArray.empty) then [(K.getD j ByteArray.empty, V.getD j ByteArray.empty)] else []) ++ (leafP low high K V V.length).drop (leafP low high K V (j + 1)).length) := by
        rw [h1, ← List.append_assoc, ← leafP_succ, h2]
      have h4 := List.append_cancel_left h3
      unfold toP
      rw [← List.map_drop, h4, List.map_append, List.map_drop]
    have hih := ih (j + 1) (out ++ toP (if kept low high (K.getD j ByteArray.empty) then [(K.getD j ByteArray.empty, V.getD j ByteArray.empty)] else [])) (by omega) (by rw [List.length_append, toP_len]; split <;> simp <;> omega)
    rw [hsplit, ← List.append_assoc]
    have st8 : ∀ {o q}, Ev (fun k => F25c7 k low high o lf K V I ((j + 1 : Nat) : Int)) q → Ev (fun k => F25c8 k low high o lf K V I (j : Int)) q := by
      intro o q h
      refine Ev.step 1 (fun k => F25c8_eq k _ _ _ _ _ _ _ _) ?_
      rw [wrap_succ (by omega)]
      exact h
    refine Ev.step 1 (fun k => F25c7_eq k _ _ _ _ _ _ _ _) ?_
    have hroom : ∀ x : PairT, decide (out.length + [x].length ≤ 4398046511104) = true := fun x => decide_eq_true (by simp only [List.length_singleton]; omega)
    simp only [lt_true hjv, ge0, if_true, Int.toNat_natCast, getD_of hjk, getD_of hjv, Option.bind_some, hroom]
    unfold kept at hih ⊢
    cases hc : Op.bytesLess (K.getD j ByteArray.empty).toList low.toList with
    | true =>
      simp only [hc, Bool.not_true, Bool.false_and, Bool.false_eq_true, if_false, toP, List.map_nil, List.append_nil] at hih ⊢
      exact st8 hih
    | false =>
      simp only [hc, Bool.not_false, Bool.true_and, if_true] at hih ⊢
      cases he : (high.toList == (⟨#[]⟩ : ByteArray).toList) with
      | true =>
        simp only [he, Bool.true_or, if_true, toP, List.map_cons, List.map_nil] at hih ⊢
        exact st8 hih
      | false =>
        simp only [he, Bool.false_or, Bool.false_eq_true, if_false] at hih ⊢
        cases hb : Op.bytesLess (K.getD j ByteArray.empty).toList high.toList with
        | true =>
          simp only [hb, if_true, toP, List.map_cons, List.map_nil] at hih ⊢
          exact st8 hih
        | false =>
          simp only [hb, Bool.false_eq_true, if_false, toP, List.map_nil, List.append_nil] at hih ⊢
          exact st8 hih
theorem gd_fit {l : List NodeT} (hok : ∀ n, n ∈ l → okNode n) : ∀ (d at' : Nat) (low high : ByteArray) (isr : Bool), Gd l d at' low high isr → fitL l d (at' : Int) := by
  intro d
  induction d with
  | zero => intro at' low high isr h; exact h.elim
  | succ d ih =>
    intro at' low high isr h
    obtain ⟨n, hn, ho, _, _, h⟩ := Gd_succ.1 h
    obtain ⟨o1, o2, o3⟩ := hok n (List.mem_of_getElem? hn)
    unfold okLen at o1 o2 o3
    refine ⟨n, by simpa using hn, by omega, ⟨?_, by omega, by omega⟩, fun k hk => ?_⟩
    · rcases h with ⟨hl, _⟩ | ⟨hl, _⟩
      · have := nodeOk_leaf ho hl; omega
      · rw [(nodeOk_inner ho hl).1]; simp
    · rcases h with ⟨hl, _⟩ | ⟨hl, hlen, hkids⟩
      · rw [(nodeOk_leaf ho hl).2] at hk; cases hk
      · obtain ⟨i, hi, rfl⟩ := List.mem_iff_getElem.1 hk
        obtain ⟨kid, k1, _, k3⟩ := hkids i hi
        have : n.2.2.2.1[i] = n.2.2.2.1.getD i 0 := by simp [List.getD, hi]
        rw [this, k1]
        exact ih kid _ _ _ k3
theorem flat_bound {α β : Type} {g : α → List β} {b : Nat} : ∀ {l : List α}, (∀ x ∈ l, (g x).length ≤ b) → (l.flatMap g).length ≤ l.length * b
  | [], _ => by simp
  | x :: l, h => by
    rw [List.flatMap_cons, List.length_append, List.length_cons, Nat.add_mul, Nat.one_mul]
    have h1 := h x (by simp)
    have h2 := flat_bound (l := l) (fun y hy => h y (by simp [hy]))
    omega
theorem leafP_len (low high : ByteArray) (K V : List ByteArray) : ∀ i, (leafP low high K V i).length ≤ i
  | 0 => Nat.le_refl _
  | i + 1 => by
    rw [leafP_succ, List.length_append]
    have := leafP_len low high K V i
    split <;> simp <;> omega
theorem gd_len {l : List NodeT} {f1 f2 : ByteArray} : ∀ (d at' : Nat) (low high : ByteArray) (isr : Bool), Gd l d at' low high isr → (listF l f1 f2 d (at' : Int)).length ≤ 4 * 5 ^ d := by
  intro d
  induction d with
  | zero => intro at' low high isr h; exact h.elim
  | succ d ih =>
    intro at' low high isr h
    obtain ⟨n, hn, ho, _, _, h⟩ := Gd_succ.1 h
    have h4 := nodeOk_four ho
    have hp : 0 < 5 ^ d := Nat.pow_pos (by omega)
    have hL : listF l f1 f2 (d + 1) (at' : Int) = leafP f1 f2 n.2.1 n.2.2.1 n.2.2.1.length ++ n.2.2.2.1.flatMap (listF l f1 f2 d) := by
      simp only [listF, Int.toNat_natCast, hn]
    rw [hL, List.length_append, Nat.pow_succ]
    rcases h with ⟨hl, _⟩ | ⟨hl, hlen, hkids⟩
    · obtain ⟨e1, e2⟩ := nodeOk_leaf ho hl
      have := leafP_len f1 f2 n.2.1 n.2.2.1 n.2.2.1.length
      rw [e2]
      simp
      omega
    · obtain ⟨e1, _, _⟩ := nodeOk_inner ho hl
      rw [e1]
      have hb := flat_bound (l := n.2.2.2.1) (g := listF l f1 f2 d) (b := 4 * 5 ^ d) (fun x hx => by
        obtain ⟨i, hi, rfl⟩ := List.mem_iff_getElem.1 hx
        obtain ⟨kid, k1, _, k3⟩ := hkids i hi
        have : n.2.2.2.1[i] = n.2.2.2.1.getD i 0 := by simp [List.getD, hi]
        rw [this, k1]
        exact ih kid _ _ _ k3)
      have h5 : n.2.2.2.1.length ≤ 5 := by omega
      have := Nat.mul_le_mul_right (4 * 5 ^ d) h5
      have e0 : (leafP f1 f2 n.2.1 ([] : List ByteArray) ([] : List ByteArray).length).length = 0 := rfl
      omega
theorem cost_mono : ∀ d, cost false d ≤ cost false (d + 1)
  | 0 => Nat.zero_le _
  | d + 1 => by
    show 1 + 3 * cost false d ≤ 1 + 3 * cost false (d + 1)
    have := cost_mono d
    omega
theorem cost_three {d : Nat} (h : cost true d ≤ 19) : d ≤ 3 := by
  rcases Nat.lt_or_ge 3 d with h3 | h3
  · exfalso
    have : ∀ e, 13 ≤ cost false (3 + e) := fun e => by
      induction e with
      | zero => decide
      | succ e ih => exact Nat.le_trans ih (cost_mono _)
    obtain ⟨e, rfl⟩ : ∃ e, d = 3 + e + 1 := ⟨d - 4, by omega⟩
    have h1 := this e
    have h2 : cost true (3 + e + 1) = 1 + 2 * cost false (3 + e) := rfl
    omega
  · exact h3
/-- the listing of a tree that is ok -/
theorem l9List_ev {l : List NodeT} {t : Int} (hok : ∀ n, n ∈ l → okNode n) (low high : ByteArray) : ∀ (d at' : Nat) (lo' hi2 : ByteArray) (isr : Bool), Gd l d at' lo' hi2 isr → ∀ out : List PairT, out.length + (listF l low high d (at' : Int)).length ≤ 1000000000 →
    Ev (fun k => F25 k t l (at' : Int) low high out) ((out ++ toP (listF l low high d (at' : Int)), ()), (((), (), ()), (), (), (), (), ())) := by
  intro d
  induction d with
  | zero => intro at' lo' hi2 isr h; exact h.elim
  | succ d ih =>
    intro at' lo' hi2 isr h out hout
    obtain ⟨n, hn, ho, _, _, h⟩ := Gd_succ.1 h
    obtain ⟨o1, o2, o3⟩ := hok n (List.mem_of_getElem? hn)
    unfold okLen at o1 o2 o3
    have hL : listF l low high (d + 1) (at' : Int) = leafP low high n.2.1 n.2.2.1 n.2.2.1.length ++ n.2.2.2.1.flatMap (listF l low high d) := by
      simp only [listF, Int.toNat_natCast, hn]
    rw [hL] at hout ⊢
    refine Ev.step 2 (fun k => F25_eq k _ _ _ _ _ _) ?_
    simp only [ge0, if_true, Int.toNat_natCast, hn, Option.bind_some]
    rcases h with ⟨hl, _⟩ | ⟨hl, hlen, hkids⟩
    · obtain ⟨e1, e2⟩ := nodeOk_leaf ho hl
      rw [e2] at hout ⊢
      simp only [List.flatMap_nil, List.append_nil] at hout ⊢
      refine Ev.step 1 (fun k => F25c3_eq k _ _ _ _ _ _ _ _ _ _) ?_
      simp only [List.length_nil, Int.ofNat_zero, Int.lt_irrefl, decide_false, Bool.false_eq_true, if_false]
      have h4 := nodeOk_four ho
      have := l9List_leaf (low := low) (high := high) (lf := n.1) (I := ([] : List Int)) e1 o1 n.2.2.1.length 0 out (by omega) (by omega)
      simpa [leafP] using this
    · obtain ⟨e1, _, _⟩ := nodeOk_inner ho hl
      rw [e1] at hout ⊢
      have e0 : leafP low high n.2.1 ([] : List ByteArray) ([] : List ByteArray).length = [] := rfl
      rw [e0, List.nil_append] at hout ⊢
      have loop : ∀ (m i : Nat) (out' : List PairT), i + m = n.2.2.2.1.length → out'.length + ((n.2.2.2.1.drop i).flatMap (listF l low high d)).length ≤ 1000000000 →
          Ev (fun k => F25c3 k low high out' t l n.1 n.2.1 ([] : List ByteArray) n.2.2.2.1 (i : Int)) ((out' ++ toP ((n.2.2.2.1.drop i).flatMap (listF l low high d)), ()), (((), (), ()), (), (), (), (), ())) := by
        intro m
        induction m with
        | zero =>
          intro i out' hi _
          obtain rfl : i = n.2.2.2.1.length := by omega
          refine Ev.step 1 (fun k => F25c3_eq k _ _ _ _ _ _ _ _ _ _) ?_
          simp only [lt_false (Nat.le_refl n.2.2.2.1.length), Bool.false_eq_true, if_false, List.drop_length, List.flatMap_nil]
          refine Ev.step 1 (fun k => F25c7_eq k _ _ _ _ _ _ _ _) ?_
          simp only [List.length_nil, Int.ofNat_zero, Int.lt_irrefl, decide_false, Bool.false_eq_true, if_false]
          simpa [toP] using Ev.now (α := (List PairT × Unit) × (Unit × Unit × Unit) × Unit × Unit × Unit × Unit × Unit) _
        | succ m ihm =>
          intro i out' hi ho'
          have hik : i < n.2.2.2.1.length := by omega
          obtain ⟨kid, k1, _, k3⟩ := hkids i hik
          have hd : n.2.2.2.1.drop i = (kid : Int) :: n.2.2.2.1.drop (i + 1) := by
            rw [List.drop_eq_getElem_cons hik]
            congr 1
            rw [← k1]
            simp [List.getD, hik]
          rw [hd, List.flatMap_cons] at ho' ⊢
          rw [List.length_append] at ho'
          refine Ev.step 1 (fun k => F25c3_eq k _ _ _ _ _ _ _ _ _ _) ?_
          simp only [lt_true hik, ge0, if_true, Int.toNat_natCast, getI_of hik, Option.bind_some, k1]
          refine Ev.bind (ih kid _ _ _ k3 out' (by omega)) ?_
          rw [wrap_succ (by omega)]
          have := ihm (i + 1) (out' ++ toP (listF l low high d (kid : Int))) (by omega) (by rw [List.length_append, toP_len]; omega)
          rw [toP_app, ← List.append_assoc]
          exact this
      have := loop n.2.2.2.1.length 0 out (by omega) (by simpa using hout)
      simpa using this
theorem sound_len {l : List NodeT} {t : Int} {d : Nat} (h : Sound l t d) (low high : ByteArray) : (listF l low high d t).length ≤ 500 := by
  obtain ⟨_, root, rfl, _, hg, hc⟩ := h
  have h3 := cost_three hc
  have := gd_len (f1 := low) (f2 := high) d root _ _ _ hg
  have h5 : 5 ^ d ≤ 5 ^ 3 := Nat.pow_le_pow_right (by omega) h3
  omega
/-- spec.TreeList; and what impl.TreeList answers -/
theorem treeList_ev (t : Int) (l : List NodeT) (hok : ∀ n, n ∈ l → okNode n) (low high : ByteArray) :
    (Ev (fun k => F18 k t l) ((false, ()), (((), (), ()), ())) ∧ Ev (fun k => F7 k t l low high) (([], ()), (((), (), ()), (), (), ()))) ∨
    (∃ d, Sound l t d ∧ fitL l d t ∧ (listF l low high d t).length ≤ 500 ∧ Ev (fun k => F18 k t l) ((true, ()), (((), (), ()), ())) ∧ Ev (fun k => F7 k t l low high) ((toP (listF l low high d t), ()), (((), (), ()), (), (), ()))) := by
  obtain ⟨v, h1, hS, h2, h3⟩ := deep_ev' t l hok
  rcases h1 with rfl | h1
  · refine .inl ⟨Ev.step 2 (fun k => F18_eq k _ _) (Ev.bind h3 (Ev.now _)), Ev.step 2 (fun k => F7_eq k _ _ _ _) (Ev.bind h2 (Ev.now _))⟩
  · have hs := hS h1
    have hlen := sound_len hs low high
    have hn : decide (v < 0) = false := decide_eq_false (by omega)
    have hp : decide ((if v < 0 then 0 else v) > (0 : Int)) = true := by rw [if_neg (by omega)]; exact decide_eq_true (by omega)
    refine .inr ⟨v.toNat, hs, ?_, hlen, ?_, ?_⟩
    · obtain ⟨_, root, rfl, _, hg, _⟩ := hs
      exact gd_fit hok _ _ _ _ _ hg
    · refine Ev.step 2 (fun k => F18_eq k _ _) (Ev.bind h3 ?_)
      simp only [hp]
      exact Ev.now _
    · refine Ev.step 2 (fun k => F7_eq k _ _ _ _) (Ev.bind h2 ?_)
      simp only [hn, Bool.false_eq_true, if_false]
      obtain ⟨_, root, rfl, _, hg, _⟩ := hs
      have := l9List_ev (t := (root : Int)) hok low high v.toNat root _ _ _ hg [] (by simp only [List.length_nil]; omega)
      exact Ev.bind this (by rw [List.nil_append]; exact Ev.now _)
end Go.Proofs.Ytcolgghllacloaa.R
end

section
/-! Rf: marks in rows. -/
set_option autoImplicit false
set_option linter.unusedSimpArgs false
set_option linter.unusedVariables false
namespace Go.Proofs.Ytcolgghllacloaa.R
open Go.Rf
theorem ble9m {n : Nat} (h : n ≤ 9223372036854775807) : Nat.ble n 9223372036854775807 = true := Nat.ble_eq_true_of_le h
theorem markText_ev (n : Nat) (h : n ≤ 1000000000) : ∃ t : ByteArray, Ev (fun k => F31 k (n : Int)) ((t, ()), ((), ())) := by
  have key : ∀ (d : Nat) (n : Nat) (x : ByteArray), n < 10 ^ d → d ≤ 18 → x.size + d ≤ 100 → ∃ t : ByteArray, Ev (fun k => F31c4 k (n : Int) x) ((t, ()), ((), ())) := by
    intro d
    induction d with
    | zero =>
      intro n x hn _ hx
      obtain rfl : n = 0 := by simpa using hn
      refine ⟨(⟨#[109]⟩ : ByteArray) ++ x, Ev.step 1 (fun k => F31c4_eq k _ _) ?_⟩
      have e : decide (((0 : Nat) : Int) > 0) = false := rfl
      have e1 : (⟨#[109]⟩ : ByteArray).size = 1 := rfl
      simp only [e, Bool.false_eq_true, if_false]
      refine Ev.pos (fun _ => ble9m (by rw [e1]; omega)) (Ev.now _)
    | succ d ih =>
      intro n x hn hd hx
      by_cases h0 : n = 0
      · subst h0
        exact ih 0 x (Nat.pos_of_ne_zero (by simp)) (by omega) (by omega)
      · have c : decide ((n : Int) > 0) = true := decide_eq_true (by omega)
        have w : IntKind.i64.wrap ((n : Int).tdiv 10) = ((n / 10 : Nat) : Int) := by
          rw [Int.tdiv_eq_ediv_of_nonneg (by omega)]
          have : n < 10 ^ 18 := Nat.lt_of_lt_of_le hn (Nat.pow_le_pow_right (by omega) (by omega))
          rw [wrap64 (by omega) (by omega)]
          omega
        have sz : ∀ l : List Int, (bytesOf l).size = l.length := fun l => by unfold bytesOf; simp [ByteArray.size]
        obtain ⟨t, ht⟩ := ih (n / 10) (bytesOf [IntKind.u8.wrap (IntKind.i64.wrap ((48 : Int) + ((n : Int).tmod (10 : Int))))] ++ x) (by rw [Nat.pow_succ] at hn; omega) (by omega) (by rw [ByteArray.size_append, sz]; simp only [List.length_cons, List.length_nil]; omega)
        refine ⟨t, Ev.step 1 (fun k => F31c4_eq k _ _) ?_⟩
        simp only [c, if_true, w]
        refine Ev.pos (fun _ => ble9m (by rw [sz]; simp only [List.length_cons, List.length_nil]; omega)) ht
  by_cases h0 : n = 0
  · subst h0
    refine ⟨⟨#[109, 48]⟩, Ev.step 2 (fun k => F31_eq k _) ?_⟩
    have e : decide (((0 : Nat) : Int) ≤ 0) = true := rfl
    simp only [e, if_true]
    exact Ev.now _
  · obtain ⟨t, ht⟩ := key 10 n ⟨#[]⟩ (by omega) (by omega) (by show 0 + 10 ≤ 100; omega)
    refine ⟨t, Ev.step 2 (fun k => F31_eq k _) ?_⟩
    have c : decide ((n : Int) ≤ 0) = false := decide_eq_false (by omega)
    simp only [c, Bool.false_eq_true, if_false]
    exact ht
noncomputable def mtx (n : Nat) : ByteArray := if h : n ≤ 1000000000 then Classical.choose (markText_ev n h) else ByteArray.empty
theorem mtx_ev {n : Nat} (h : n ≤ 1000000000) : Ev (fun k => F31 k (n : Int)) ((mtx n, ()), ((), ())) := by
  unfold mtx
  rw [dif_pos h]
  exact Classical.choose_spec (markText_ev n h)
end Go.Proofs.Ytcolgghllacloaa.R
end

section
/-! Rf: marks in a row of pairs. -/
set_option autoImplicit false
set_option linter.unusedSimpArgs false
set_option linter.unusedVariables false
namespace Go.Proofs.Ytcolgghllacloaa.R
open Go.Rf
theorem eqPair_ev (p : PairT) : Ev (fun k => F28 k p.1 p.2.1 p.1 p.2.1) ((true, ()), (((), (), ()), ((), (), ()), ())) := by
  refine Ev.step 2 (fun k => F28_eq k _ _ _ _) ?_
  simp only [beq_self_eq_true, Bool.not_true, Bool.false_eq_true, if_false]
  exact Ev.now _
theorem eqPairS_ev (l : List PairT) (h : okLen l.length) : Ev (fun k => F10 k l l) ((true, ()), ((), (), ())) := by
  unfold okLen at h
  refine Ev.step 2 (fun k => F10_eq k _ _) ?_
  simp only [bne_self_eq_false, Bool.false_eq_true, if_false]
  have key : ∀ (m i : Nat), i + m = l.length → Ev (fun k => F10c4 k l l (i : Int)) ((true, ()), ((), (), ())) := by
    intro m
    induction m with
    | zero =>
      intro i hi
      obtain rfl : i = l.length := by omega
      refine Ev.step 1 (fun k => F10c4_eq k _ _ _) ?_
      simp only [lt_false (Nat.le_refl _), Bool.false_eq_true, if_false]
      exact Ev.now _
    | succ m ih =>
      intro i hi
      have hil : i < l.length := by omega
      obtain ⟨y, hy⟩ : ∃ y, l[i]? = some y := ⟨_, List.getElem?_eq_getElem hil⟩
      refine Ev.step 1 (fun k => F10c4_eq k _ _ _) ?_
      simp only [lt_true hil, ge0, if_true, Int.toNat_natCast, hy, Option.bind_some]
      refine Ev.bind (eqPair_ev y) ?_
      simp only [Bool.not_true, Bool.false_eq_true, if_false]
      rw [wrap_succ (by omega)]
      exact ih (i + 1) (by omega)
  exact key l.length 0 (by omega)
noncomputable def mkP (b : Nat) : Nat → List PairT
  | 0 => []
  | n + 1 => (mtx b, mtx (b + 1), ()) :: mkP (b + 2) n
theorem mkP_len : ∀ (n b : Nat), (mkP b n).length = n
  | 0, _ => rfl
  | n + 1, b => by simp [mkP, mkP_len n]
theorem mkP_get : ∀ (n b i : Nat), i < n → (mkP b n)[i]? = some (mtx (b + 2 * i), mtx (b + 2 * i + 1), ())
  | n + 1, b, 0, _ => by simp [mkP]
  | n + 1, b, i + 1, h => by
    simp only [mkP, List.getElem?_cons_succ]
    rw [mkP_get n (b + 2) i (by omega)]
    rw [show b + 2 + 2 * i = b + 2 * (i + 1) by omega]
theorem markPairS_ev (l : List PairT) (b : Nat) (h : okLen l.length) (hb : b ≤ 100000000) : Ev (fun k => F13 k l (b : Int)) ((((b + 2 * l.length : Nat) : Int), ()), (mkP b l.length, (), ())) := by
  unfold okLen at h
  refine Ev.step 2 (fun k => F13_eq k _ _) ?_
  have key : ∀ (m i : Nat) (x : List PairT), i + m = l.length → x.length = l.length → (∀ j, j < i → x[j]? = some (mtx (b + 2 * j), mtx (b + 2 * j + 1), ())) →
      Ev (fun k => F13c2 k x ((b + 2 * i : Nat) : Int) (i : Int)) ((((b + 2 * l.length : Nat) : Int), ()), (mkP b l.length, (), ())) := by
    intro m
    induction m with
    | zero =>
      intro i x hi hx hj
      obtain rfl : i = l.length := by omega
      have : x = mkP b l.length := by
        apply List.ext_getElem?
        intro j
        rcases Nat.lt_or_ge j l.length with hlt | hge
        · rw [hj j hlt, mkP_get _ _ _ hlt]
        · rw [List.getElem?_eq_none (by omega), List.getElem?_eq_none (by rw [mkP_len]; omega)]
      rw [← this]
      refine Ev.step 1 (fun k => F13c2_eq k _ _ _) ?_
      simp only [lt_false (Nat.le_of_eq hx), Bool.false_eq_true, if_false]
      exact Ev.now _
    | succ m ih =>
      intro i x hi hx hj
      have hil : i < x.length := by omega
      obtain ⟨y, hy⟩ : ∃ y, x[i]? = some y := ⟨_, List.getElem?_eq_getElem hil⟩
      have ew : IntKind.i64.wrap (((b + 2 * i : Nat) : Int) + (1 : Int)) = ((b + 2 * i + 1 : Nat) : Int) := wrap_succ (by omega)
      have ew2 : IntKind.i64.wrap (((b + 2 * i + 1 : Nat) : Int) + (1 : Int)) = ((b + 2 * (i + 1) : Nat) : Int) := by rw [wrap_succ (by omega)]; congr 1
      have hl1 : i < (x.set i (mtx (b + 2 * i), (y.2.1, ()))).length := by simpa using hil
      refine Ev.step 1 (fun k => F13c2_eq k _ _ _) ?_
      simp only [lt_true hil, if_true]
      refine Ev.bind (mtx_ev (by omega)) ?_
      simp only [ge0, Bool.and_self, if_true, Int.toNat_natCast, hy, Option.bind_some, ew]
      refine Ev.bind (mtx_ev (by omega)) ?_
      simp only [lt_true hl1, ge0, Bool.and_self, if_true, List.getElem?_set_self hil, Option.bind_some, ew2, wrap_succ (show i < 9223372036854775807 by omega), List.set_set]
      refine ih (i + 1) _ (by omega) (by simpa using hx) fun j hj' => ?_
      rcases Nat.lt_or_ge j i with h1 | h1
      · rw [List.getElem?_set_ne (by omega)]
        exact hj j h1
      · obtain rfl : j = i := by omega
        rw [List.getElem?_set_self hil]
  exact key l.length 0 l (by omega) rfl (fun j hj => by omega)
theorem heldPairS_ev (n b : Nat) (h : okLen n) (hb : b ≤ 100000000) : Ev (fun k => F14 k (mkP b n) (b : Int)) ((((b + 2 * n : Nat) : Int), ()), ((), (), ())) := by
  unfold okLen at h
  refine Ev.step 2 (fun k => F14_eq k _ _) ?_
  have key : ∀ (m i : Nat), i + m = n → Ev (fun k => F14c2 k (mkP b n) ((b + 2 * i : Nat) : Int) (i : Int)) ((((b + 2 * n : Nat) : Int), ()), ((), (), ())) := by
    intro m
    induction m with
    | zero =>
      intro i hi
      obtain rfl : i = n := by omega
      refine Ev.step 1 (fun k => F14c2_eq k _ _ _) ?_
      simp only [mkP_len, lt_false (Nat.le_refl _), Bool.false_eq_true, if_false]
      exact Ev.now _
    | succ m ih =>
      intro i hi
      have hil : i < n := by omega
      have ew : IntKind.i64.wrap (((b + 2 * i : Nat) : Int) + (1 : Int)) = ((b + 2 * i + 1 : Nat) : Int) := wrap_succ (by omega)
      have ew2 : IntKind.i64.wrap (((b + 2 * i + 1 : Nat) : Int) + (1 : Int)) = ((b + 2 * (i + 1) : Nat) : Int) := by rw [wrap_succ (by omega)]; congr 1
      refine Ev.step 1 (fun k => F14c2_eq k _ _ _) ?_
      simp only [mkP_len, lt_true hil, if_true, ge0, Int.toNat_natCast, mkP_get n b i hil, Option.bind_some]
      refine Ev.bind (mtx_ev (by omega)) ?_
      simp only [beq_self_eq_true, Bool.not_true, Bool.false_eq_true, if_false, ew]
      refine Ev.bind (mtx_ev (by omega)) ?_
      simp only [beq_self_eq_true, Bool.not_true, Bool.false_eq_true, if_false, ew2, wrap_succ (show i < 9223372036854775807 by omega)]
      exact ih (i + 1) (by omega)
  exact key n 0 (by omega)
end Go.Proofs.Ytcolgghllacloaa.R
end

section
/-! Asked by hand: the listing of a tree, and what a law does with it. -/
set_option autoImplicit false
namespace Go.Proofs.Ytcolgghllacloaa.R
open Go.Rf Go.RowKit
abbrev pairT : T := .pair .str (.pair .str .unit)
abbrev All (w : World) : Nat → Prop := fun b => b < w.heap.size
theorem gl0 (w : World) (Z : Nat → Prop) : GL cx w Z := ⟨(fun _ _ h => by cases h), (fun _ _ h => by cases h)⟩
theorem res_int {w : World} {Z : Nat → Prop} {n : Int} {vs : List Value} {fp : List Nat} (h : ShsRep w Z [.c (.v (.int .i64))] (n, ()) vs fp) : tupV vs = .int .i64 n := by
  match vs, h with
  | [v], ⟨f, g, _, ⟨hv, _⟩, _⟩ => exact (List.cons.inj hv).1
theorem tree_shape {w : World} {Z : Nat → Prop} {root : Int} {N : List NodeT} {v : Value} (h : rep w Z (.sl nodeT) N [v]) :
    ShRep w Z (.agg [.v (.int .i64), .v (.sl nodeT)]) (root, N, ()) (.agg #[.int .i64 root, v]) [] :=
  ⟨_, rfl, [], [], rfl, ⟨rfl, rfl⟩, [], [], rfl, ⟨h, rfl⟩, rfl⟩
theorem ask_ok {w : World} {root : Int} {N : List NodeT} {v : Value} {b : Bool} (h : rep w (All w) (.sl nodeT) N [v]) (hev : Ev (fun k => F18 k root N) ((b, ()), (((), (), ()), ()))) :
    Calls Try.prog 18 #[.agg #[.int .i64 root, v]] w fun e w' => e = .returned (.bool b) ∧ Below w.heap.size w w' := by
  obtain ⟨k, hk⟩ := hev.get
  refine (ask_read (told k 18 ((root, N, ()), ()) ((b, ()), (((), (), ()), ())) hk) (args := [.agg #[.int .i64 root, v]]) ⟨[], [], rfl, tree_shape h, rfl⟩ (gl0 _ _)).mono ?_
  rintro e w' ⟨rvs, rfp, rfl, hs, _, _, hb⟩
  exact ⟨by rw [res_bool hs], hb⟩
theorem ask_sz {w : World} {root : Int} {N : List NodeT} {v : Value} {r : Int} (h : rep w (All w) (.sl nodeT) N [v]) {q} (hev : Ev (fun k => F6 k root N 1048576) ((r, ()), q)) :
    Calls Try.prog 6 #[.agg #[.int .i64 root, v], .int .i64 1048576] w fun e w' => e = .returned (.int .i64 r) ∧ Below w.heap.size w w' := by
  obtain ⟨k, hk⟩ := hev.get
  refine (ask_read (told k 6 ((root, N, ()), 1048576, ()) ((r, ()), q) hk) (args := [.agg #[.int .i64 root, v], .int .i64 1048576]) ⟨[], [], rfl, tree_shape h, [], [], rfl, ⟨rfl, rfl⟩, rfl⟩ (gl0 _ _)).mono ?_
  rintro e w' ⟨rvs, rfp, rfl, hs, _, _, hb⟩
  exact ⟨by rw [res_int hs], hb⟩
theorem ask_list {w : World} {root : Int} {N : List NodeT} {v : Value} {low high : ByteArray} {l : List PairT} (h : rep w (All w) (.sl nodeT) N [v]) (hev : Ev (fun k => F7 k root N low high) ((l, ()), (((), (), ()), (), (), ()))) :
    Calls Try.prog 7 #[.agg #[.int .i64 root, v], .string low, .string high] w fun e w' => ∃ u, e = .returned u ∧ rep w' (All w') (.sl pairT) l [u] ∧ Below w.heap.size w w' := by
  obtain ⟨k, hk⟩ := hev.get
  refine (ask_read (told k 7 ((root, N, ()), low, high, ()) ((l, ()), (((), (), ()), (), (), ())) hk) (args := [.agg #[.int .i64 root, v], .string low, .string high]) ⟨[], [], rfl, tree_shape h, [], [], rfl, ⟨rfl, rfl⟩, [], [], rfl, ⟨rfl, rfl⟩, rfl⟩ (gl0 _ _)).mono ?_
  rintro e w' ⟨rvs, rfp, rfl, hs, _, _, hb⟩
  match rvs, hs with
  | [u], ⟨f, g, _, ⟨hv, _⟩, _⟩ => exact ⟨u, rfl, hv, hb⟩
theorem ask_eqP {w : World} {l : List PairT} {u v : Value} (hl : okLen l.length) (h : rep w (All w) (.sl pairT) l [u]) (h2 : rep w (All w) (.sl pairT) l [v]) :
    Calls Try.prog 10 #[u, v] w fun e w' => e = .returned (.bool true) ∧ Below w.heap.size w w' := by
  obtain ⟨k, hk⟩ := (eqPairS_ev l hl).get
  refine (ask_read (told k 10 (l, l, ()) ((true, ()), ((), (), ())) hk) (args := [u, v]) ⟨[], [], rfl, ⟨h, rfl⟩, [], [], rfl, ⟨h2, rfl⟩, rfl⟩ (gl0 _ _)).mono ?_
  rintro e w' ⟨rvs, rfp, rfl, hs, _, _, hb⟩
  exact ⟨by rw [res_bool hs], hb⟩
theorem ask_eqT {w : World} {root : Int} {N : List NodeT} {u v : Value} (h0 : okLen N.length) (hok : ∀ n, n ∈ N → okNode n) (h : rep w (All w) (.sl nodeT) N [u]) (h2 : rep w (All w) (.sl nodeT) N [v]) :
    Calls Try.prog 11 #[.agg #[.int .i64 root, u], .agg #[.int .i64 root, v]] w fun e w' => e = .returned (.bool true) ∧ Below w.heap.size w w' := by
  obtain ⟨k, hk⟩ := (F11_ev root N h0 hok).get
  refine (ask_read (told k 11 ((root, N, ()), (root, N, ()), ()) ((true, ()), (((), (), ()), ((), (), ()), ())) hk) (args := [.agg #[.int .i64 root, u], .agg #[.int .i64 root, v]]) ⟨[], [], rfl, tree_shape h, [], [], rfl, tree_shape h2, rfl⟩ (gl0 _ _)).mono ?_
  rintro e w' ⟨rvs, rfp, rfl, hs, _, _, hb⟩
  exact ⟨by rw [res_bool hs], hb⟩
theorem ask_markP {w : World} {l : List PairT} {v : Value} {b : Nat} (hl : okLen l.length) (hb : b ≤ 100000000) (h : rowrep w (fun _ => False) v ⟨pairT, 45, l⟩) (hv : ∃ A n c, v = .slice A n c) (hlt : ∀ g, blk v = some g → g < w.heap.size) :
    Calls Try.prog 13 #[v, .int .i64 b] w fun e w' => e = .returned (.int .i64 ((b + 2 * l.length : Nat) : Int)) ∧ rowrep w' (fun _ => False) v ⟨pairT, 45, mkP b l.length⟩ ∧ Keep w w' (fun g => blk v = some g ∨ w.heap.size ≤ g) := by
  obtain ⟨k, hk⟩ := (markPairS_ev l b hl hb).get
  refine (told k 13 (l, (b : Int), ()) ((((b + 2 * l.length : Nat) : Int), ()), (mkP b l.length, (), ())) hk w (fun _ => False) [v, .int .i64 b] (blk v).toList ⟨(blk v).toList, [], by simp, ⟨h, hv, rfl⟩, [], [], rfl, ⟨rfl, rfl⟩, rfl⟩ (by cases blk v <;> simp) (fun g hg => ⟨fun h => h, hlt g (by simpa using hg)⟩) (fun _ h => h.elim) (gl0 _ _)).mono ?_
  rintro e w' ⟨rvs, Z', rfp, pfp, rfl, hs, hp, _, _, _, hZ', hk⟩
  have e1 := res_int hs
  obtain ⟨f, g, _, ⟨q, hq, _, _⟩, _⟩ := hp
  refine ⟨by rw [e1], ?_, hk.os, hk.tape, hk.output, hk.size, fun g h1 h2 => hk.block g h1 (fun h => h2 (h.imp (fun h => by simpa using h) id)), hk.other⟩
  obtain ⟨xs, hx, ho⟩ := hq
  exact ⟨xs, hx.mono (fun x c hc => rep_any (t := pairT) rfl hc), ho⟩
theorem ask_heldP {w : World} {n b : Nat} {v : Value} (hl : okLen n) (hb : b ≤ 100000000) (h : rep w (All w) (.sl pairT) (mkP b n) [v]) :
    Calls Try.prog 14 #[v, .int .i64 b] w fun e w' => e = .returned (.int .i64 ((b + 2 * n : Nat) : Int)) ∧ Below w.heap.size w w' := by
  obtain ⟨k, hk⟩ := (heldPairS_ev n b hl hb).get
  refine (ask_read (told k 14 (mkP b n, (b : Int), ()) ((((b + 2 * n : Nat) : Int), ()), ((), (), ())) hk) (args := [v, .int .i64 b]) ⟨[], [], rfl, ⟨h, rfl⟩, [], [], rfl, ⟨rfl, rfl⟩, rfl⟩ (gl0 _ _)).mono ?_
  rintro e w' ⟨rvs, rfp, rfl, hs, _, _, hb⟩
  exact ⟨by rw [res_int hs], hb⟩
end Go.Proofs.Ytcolgghllacloaa.R
end

section
namespace Go.Proofs.Ytcolgghllacloaa.Q
open Go.Rf (RowIn NodeC Nodes strs ints rep nodeT rowrep)
open Go.Proofs.Ytcolgghllacloaa.R (okNode okLen PairT pairT toP mkP All Sound)
open Go.RowKit Go.Proofs.Ytcolgghllacloaa.Q Go.Proofs.YtcolgghllacloaaW.PrintWords Go.Proofs.YtcolgghllacloaaW.PrintLast Go.Proofs.YtcolgghllacloaaW.PrintMore
set_option linter.unusedVariables false
set_option linter.unusedSimpArgs false
theorem row_cells {w : World} {B id : Nat} {v : Value} {α : Type} {f : α → Value} {l : List α} (h : RowIn w B id v (l.map f)) : ∃ A c, v = .slice A l.length c ∧ ∀ j p, l[j]? = some p → ∃ a, A = some a ∧ w.cell? (a.add j) = some (f p) := by
  have hh := h
  rcases hh with ⟨rfl, h0⟩ | ⟨g, cap, cur, rfl, _⟩
  · obtain rfl : l = [] := List.map_eq_nil_iff.1 h0
    exact ⟨_, _, rfl, fun j p hj => by simp at hj⟩
  · refine ⟨some ⟨g, 0, none⟩, cap, by rw [List.length_map], fun j p hj => ⟨_, rfl, ?_⟩⟩
    obtain ⟨g', cap', e, hc⟩ := h.cell (j := j) (u := f p) (by rw [List.getElem?_map, hj]; rfl)
    injection e with e1
    injection e1 with e1
    injection e1 with e1
    subst e1
    rw [Go.Rf.add_mk]
    exact hc
theorem TreeAt.node {w : World} {B g : Nat} {N : List Nd} (h : TreeAt w B g N) : ∀ (i : Nat) n, N[i]? = some n → NodeAt w g (0 + i * 4) n := by
  intro i n hn
  obtain ⟨cur, E, _, hc, _, _, b, _, _, _, h4⟩ := h
  obtain ⟨uK, uV, uI, B1, B2, e0, e1, e2, e3, _, _, _, rK, rV, rI, _, _, _⟩ := h4 i n hn
  obtain ⟨AK, cK, rfl, kK⟩ := row_cells rK
  obtain ⟨AV, cV, rfl, kV⟩ := row_cells rV
  obtain ⟨AI, cI, rfl, kI⟩ := row_cells rI
  rw [Nat.zero_add]
  exact ⟨AK, cK, AV, cV, AI, cI, by rw [hc.cell]; exact e0, by rw [hc.cell]; exact e1, by rw [hc.cell]; exact e2, by rw [hc.cell]; exact e3, kK, kV, kI⟩
theorem TreeAt.rep {w : World} {B g : Nat} {N : List Nd} (h : TreeAt w B g N) : rep w (All w) (.sl nodeT) N [.slice (some ⟨g, 0, none⟩) N.length N.length] := by
  obtain ⟨cur, E, _, hc, hs, _, hN⟩ := h
  exact hN.rep hc hs
theorem TreeAt.below {w w' : World} {B g : Nat} {N : List Nd} (h : TreeAt w B g N) (hb : Below w.heap.size w w') : TreeAt w' B g N := h.keep (fun k _ hk => hb.block k hk) hb.size
theorem OwnP.row {w : World} {base : Nat} {v : Value} {l : List (ByteArray × ByteArray)} (h : OwnP w base v l) : rowrep w (fun _ => False) v ⟨pairT, 45, toP l⟩ ∧ (∃ A n c, v = .slice A n c) ∧ ∀ g, Go.Rf.blk v = some g → base ≤ g ∧ g < w.heap.size := by
  have key : ∀ l : List (ByteArray × ByteArray), Go.Rf.reps (Go.Rf.rep w (fun _ => False) pairT) (toP l) (flatP l) := by
    intro l
    induction l with
    | nil => rfl
    | cons p l ih => exact ⟨[.string p.1, .string p.2], flatP l, rfl, ⟨[.string p.1], [.string p.2], rfl, rfl, [.string p.2], [], rfl, rfl, rfl⟩, ih⟩
  rcases h with ⟨rfl, rfl⟩ | ⟨g, cap, cur, rfl, hb, hh, h1, h2, h3, h4⟩
  · exact ⟨⟨[], rfl, rfl, .inl ⟨rfl, rfl⟩⟩, ⟨_, _, _, rfl⟩, fun g hg => by cases hg⟩
  · refine ⟨⟨flatP l, key l, by rw [flatP_length]; show l.length * 2 = (toP l).length * 2; rw [Go.Proofs.Ytcolgghllacloaa.R.toP_len], .inr ⟨g, cap, cur, ?_, hh, ?_, h2, h3, ?_⟩⟩, ⟨_, _, _, rfl⟩, fun g' hg => ?_⟩
    · show Value.slice _ l.length _ = Value.slice _ (toP l).length _
      rw [Go.Proofs.Ytcolgghllacloaa.R.toP_len]
    · show (toP l).length ≤ cap
      rw [Go.Proofs.Ytcolgghllacloaa.R.toP_len]; exact h1
    · show cur.toList.take ((toP l).length * 2) = flatP l
      rw [Go.Proofs.Ytcolgghllacloaa.R.toP_len]; exact h4
    · obtain rfl : g = g' := by simpa [Go.Rf.blk] using hg
      exact ⟨hb, lt_of_block hh⟩
theorem row_rep {w : World} {v : Value} {l : List PairT} (h : rowrep w (fun _ => False) v ⟨pairT, 45, l⟩) (hv : ∀ g, Go.Rf.blk v = some g → g < w.heap.size) : rep w (All w) (.sl pairT) l [v] :=
  Go.Rf.row_value (Go.Rf.rowrep_weaken (fun _ h => h.elim) h) hv
/-- the law's tree in its box, and what it leaves -/
structure A0 (w W : World) (root : Int) (vN : Value) : Prop where
  box : CellsAt W w.heap.size 24 #[.int .i64 root, vN]
  old : Below w.heap.size w W
theorem A0.below {w W W' : World} {root : Int} {vN : Value} (h : A0 w W root vN) (hb : Below W.heap.size W W') : A0 w W' root vN := ⟨h.box.below hb h.box.lt, h.old.trans (hb.mono h.old.size)⟩
section
variable {w W : World} {root : Int} {vN : Value} {N : List Nd} {low high : ByteArray}
theorem A0.rep (h : A0 w W root vN) (hr : Go.Rf.rep w (All w) (.sl nodeT) N [vN]) : Go.Rf.rep W (All W) (.sl nodeT) N [vN] := rep_up (fun _ h => h) h.old hr
theorem A0.toTree (h : A0 w W root vN) (hr : Go.Rf.rep w (All w) (.sl nodeT) N [vN]) (hl : okLen N.length) (hok : ∀ n, n ∈ N → okNode n) :
    Calls Try.prog 8 #[.agg #[.int .i64 root, vN]] W fun e w' => ∃ g, e = .returned (.agg #[.int .i64 root, .slice (some ⟨g, 0, none⟩) N.length N.length]) ∧ TreeAt w' W.heap.size g N ∧ Below W.heap.size W w' := by
  obtain ⟨A, c, rfl, hN⟩ := nodeArg_of (fun _ h => h) (h.rep hr) (fun i n hn => hok n (List.mem_of_getElem? hn))
  exact toTree_any W root A c N hl hN
/-- what is listed -/
structure Lst (root : Int) (N : List Nd) (low high : ByteArray) (ls : List (ByteArray × ByteArray)) : Prop where
  len : ls.length ≤ 500
  spec : Go.Rf.Ev (fun k => Go.Proofs.Ytcolgghllacloaa.R.F7 k root N low high) ((toP ls, ()), (((), (), ()), (), (), ()))
  impl : ∀ (W : World) (B g : Nat), TreeAt W B g N → Calls Try.prog 9 #[.agg #[.int .i64 root, .slice (some ⟨g, 0, none⟩) N.length N.length], .string low, .string high] W fun e w' => ∃ v, e = .returned v ∧ OwnP w' W.heap.size v ls ∧ Below W.heap.size W w'
theorem lst_of (root : Int) (N : List Nd) (low high : ByteArray) (hok : ∀ n, n ∈ N → okNode n) : ∃ ls, Lst root N low high ls := by
  rcases Go.Proofs.Ytcolgghllacloaa.R.treeList_ev root N hok low high with ⟨h1, h2⟩ | ⟨d, _, hfit, hlen, h1, h2⟩
  · refine ⟨[], Nat.zero_le _, h2, fun W B g hT => (treeList_no W root _ _ _ low high (fun W' hW' => Go.Proofs.Ytcolgghllacloaa.R.ask_ok (hT.below hW').rep h1)).mono ?_⟩
    rintro e w' ⟨rfl, hb⟩
    exact ⟨_, rfl, .inl ⟨rfl, rfl⟩, hb⟩
  · refine ⟨listF N low high d root, hlen, h2, fun W B g hT => treeList_yes W root _ _ _ low high _ (fun W' hW' => Go.Proofs.Ytcolgghllacloaa.R.ask_ok (hT.below hW').rep h1) (fun W' hW' => list_any W' root g 0 N.length N low high d (hT.below hW').node hfit (by omega))⟩
end
end Go.Proofs.Ytcolgghllacloaa.Q
end
