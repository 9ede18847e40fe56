/- A part of the proof that the law FnExactTreeList answers true for every input: contracts of functions that it reaches, or its plain law. -/
import Derived.Test.YtcolgghllacloaaRows
import Derived.WalkKit
import Derived.ProofKit
import Derived.OpenShut
import Derived.ShutString
import Derived.ChangeOld
import Derived.Below
import Derived.SizedLaws
import Derived.Carry
import Derived.Test.YtcolgghllacloaaCFnExactTreeListx0
import Derived.Test.YtcolgghllacloaaCFnExactTreeListx1
import Derived.Test.YtcolgghllacloaaCFnExactTreeListx2
import Derived.Test.YtcolgghllacloaaCFnExactTreeListx3
import Derived.Test.YtcolgghllacloaaCFnExactTreeListx4
namespace Go.Proofs.Ytcolgghllacloaa.Q
end Go.Proofs.Ytcolgghllacloaa.Q
namespace Go.Proofs.Ytcolgghllacloaa.R
end Go.Proofs.Ytcolgghllacloaa.R
namespace Go.Proofs.YtcolgghllacloaaW.PrintLast
end Go.Proofs.YtcolgghllacloaaW.PrintLast
namespace Go.Proofs.YtcolgghllacloaaW.PrintMore
end Go.Proofs.YtcolgghllacloaaW.PrintMore
namespace Go.Proofs.YtcolgghllacloaaW.PrintWords
end Go.Proofs.YtcolgghllacloaaW.PrintWords
section
namespace Go.Proofs.Ytcolgghllacloaa.Q
open Go.Rf (RowIn NodeC Nodes strs ints nodeT rowrep)
open Go.Proofs.Ytcolgghllacloaa.R (okNode okLen PairT pairT toP mkP All Sound)
open Go.RowKit Go.Proofs.Ytcolgghllacloaa.Q Go.Proofs.YtcolgghllacloaaW.PrintWords Go.Proofs.YtcolgghllacloaaW.PrintLast Go.Proofs.YtcolgghllacloaaW.PrintMore
set_option linter.unusedVariables false
set_option linter.unusedSimpArgs false
set_option maxRecDepth 100000 in
set_option maxHeartbeats 4000000 in
theorem law_big1 (w : World) (root : Int) (A : Option Addr) (n c : Nat) (low high : ByteArray) (h : (1048576 : Int) < (low.size : Int)) :
    Calls Try.prog 3 #[.agg #[.int .i64 root, .slice A n c], .string low, .string high] w fun e w' => e = .returned (.bool true) ∧ Below w.heap.size w w' := by
  have hb : Below w.heap.size w (w.alloc (.cells #[.int .i64 root, .slice A n c] 24)) := (Below.refl _ w).alloc (Nat.le_refl _) _
  have HB := Aside0.mk hb
  clear hb
  go_enter Try.func3, Try.ntmps3
  go_wp2_with fail
  go_ret
  exact ⟨rfl, HB.out⟩
set_option maxRecDepth 100000 in
set_option maxHeartbeats 4000000 in
theorem law_big2 (w : World) (root : Int) (A : Option Addr) (n c : Nat) (low high : ByteArray) (h0 : ¬ (1048576 : Int) < (low.size : Int)) (h : (1048576 : Int) < (high.size : Int)) :
    Calls Try.prog 3 #[.agg #[.int .i64 root, .slice A n c], .string low, .string high] w fun e w' => e = .returned (.bool true) ∧ Below w.heap.size w w' := by
  have hb : Below w.heap.size w (w.alloc (.cells #[.int .i64 root, .slice A n c] 24)) := (Below.refl _ w).alloc (Nat.le_refl _) _
  have HB := Aside0.mk hb
  clear hb
  go_enter Try.func3, Try.ntmps3
  go_wp2_with fail
  go_ret
  exact ⟨rfl, HB.out⟩
set_option maxRecDepth 100000 in
set_option maxHeartbeats 4000000 in
theorem law_sz (w : World) (root : Int) (A : Option Addr) (n c : Nat) (low high : ByteArray) (h0 : ¬ (1048576 : Int) < (low.size : Int)) (h1 : ¬ (1048576 : Int) < (high.size : Int)) (r : Int) (hr : r < 0)
    (hsz : ∀ W, A0 w W root (.slice A n c) → Calls Try.prog 6 #[.agg #[.int .i64 root, .slice A n c], .int .i64 1048576] W fun e w' => e = .returned (.int .i64 r) ∧ Below W.heap.size W w') :
    Calls Try.prog 3 #[.agg #[.int .i64 root, .slice A n c], .string low, .string high] w fun e w' => e = .returned (.bool true) ∧ Below w.heap.size w w' := by
  have h := Aside0.mk (show A0 w (w.alloc (.cells #[.int .i64 root, .slice A n c] 24)) root (.slice A n c) from ⟨CellsAt.new _ _ _, (Below.refl _ w).alloc (Nat.le_refl _) _⟩)
  have HS := Aside0.mk hsz
  clear hsz
  go_enter Try.func3, Try.ntmps3
  go_wp2_with (go_at_call 6; refine (HS.out _ h.out).mono ?_; rintro e w2 ⟨rfl, h2⟩; have H2 := Aside0.mk (h.out.old.trans (h2.mono h.out.old.size)); clear h2)
  go_ret
  exact ⟨rfl, H2.out⟩
/-- what stands from the listing on -/
structure B1 (w W : World) (root : Int) (vN : Value) (s0 base : Nat) (us : List PairT) (u0 v : Value) (lv : List PairT) : Prop where
  a : A0 w W root vN
  u : Go.Rf.rep W (fun b => b < s0) (.sl pairT) us [u0]
  row : rowrep W (fun _ => False) v ⟨pairT, 45, lv⟩
  vs : ∃ A n c, v = .slice A n c
  vb : ∀ g, Go.Rf.blk v = some g → base ≤ g ∧ g < W.heap.size
  s : w.heap.size < s0 ∧ s0 ≤ base ∧ base ≤ W.heap.size
section
variable {w W W' : World} {root : Int} {vN u0 v : Value} {s0 base : Nat} {us lv lv' : List PairT}
theorem B1.below (h : B1 w W root vN s0 base us u0 v lv) (hb : Below W.heap.size W W') : B1 w W' root vN s0 base us u0 v lv := by
  have hs := h.s
  have hz := hb.size
  exact ⟨h.a.below hb, h.u.ext (fun b hb' => hb.block b (by omega)) (fun _ h => h), Go.Rf.rowrep_ext h.row (fun _ h => h.elim) (fun _ h => h) (fun b hb' => hb.block b (h.vb b hb').2), h.vs, fun g hg => ⟨(h.vb g hg).1, by have := (h.vb g hg).2; omega⟩, hs.1, hs.2.1, by omega⟩
/-- other memory is marked -/
theorem B1.keep' (h : B1 w W root vN s0 base us u0 v lv) {g E : Nat} (hk : Go.Rf.Keep' W W' g E) (hg : s0 ≤ g) (hE : E ≤ base) : B1 w W' root vN s0 base us u0 v lv := by
  have hs := h.s
  have hz := hk.size
  refine ⟨⟨(hk.block _ (by omega) (.inl (by omega))).trans h.a.box, ⟨?_, ?_, ?_, ?_, ?_⟩⟩, h.u.ext (fun b hb' => hk.block b (by omega) (.inl (by omega))) (fun _ h => h), Go.Rf.rowrep_ext h.row (fun _ h => h.elim) (fun _ h => h) (fun b hb' => hk.block b (h.vb b hb').2 (.inr (by have := (h.vb b hb').1; omega))), h.vs, fun g hg => ⟨(h.vb g hg).1, by have := (h.vb g hg).2; omega⟩, hs.1, hs.2.1, by omega⟩
  · exact hk.os.trans h.a.old.os
  · exact hk.tape.trans h.a.old.tape
  · exact hk.output.trans h.a.old.output
  · exact Nat.le_trans h.a.old.size hk.size
  · intro k hk'
    exact (hk.block k (by have := h.a.old.size; omega) (.inl (by omega))).trans (h.a.old.block k hk')
/-- the row itself is marked -/
theorem B1.mark (h : B1 w W root vN s0 base us u0 v lv) (hk : Go.Rf.Keep W W' (fun g => Go.Rf.blk v = some g ∨ W.heap.size ≤ g)) (hv : rowrep W' (fun _ => False) v ⟨pairT, 45, lv'⟩) : B1 w W' root vN s0 base us u0 v lv' := by
  have hs := h.s
  have hz := hk.size
  have hb : ∀ b, b < s0 → W'.heap[b]? = W.heap[b]? := fun b hb => hk.block b (by omega) (fun e => e.elim (fun e => by have := (h.vb b e).1; omega) (fun e => by omega))
  refine ⟨⟨(hb _ hs.1).trans h.a.box, ⟨?_, ?_, ?_, ?_, ?_⟩⟩, h.u.ext (fun b hb' => hb b hb') (fun _ h => h), hv, h.vs, fun g hg => ⟨(h.vb g hg).1, by have := (h.vb g hg).2; omega⟩, hs.1, hs.2.1, by omega⟩
  · exact hk.os.trans h.a.old.os
  · exact hk.tape.trans h.a.old.tape
  · exact hk.output.trans h.a.old.output
  · exact Nat.le_trans h.a.old.size hk.size
  · intro k hk'
    exact (hb k (by omega)).trans (h.a.old.block k hk')
theorem B1.urep (h : B1 w W root vN s0 base us u0 v lv) : Go.Rf.rep W (All W) (.sl pairT) us [u0] := h.u.ext (fun _ _ => rfl) (fun b hb => by have := h.s; show b < W.heap.size; omega)
theorem B1.vrep (h : B1 w W root vN s0 base us u0 v lv) : Go.Rf.rep W (All W) (.sl pairT) lv [v] := row_rep h.row (fun g hg => (h.vb g hg).2)
end
set_option maxRecDepth 100000 in
set_option maxHeartbeats 8000000 in
theorem law_main (w : World) (root : Int) (A : Option Addr) (c : Nat) (N : List Nd) (low high : ByteArray) (h0 : ¬ (1048576 : Int) < (low.size : Int)) (h1 : ¬ (1048576 : Int) < (high.size : Int)) (r : Int) (hr : ¬ r < 0)
    (hsz : ∀ W, A0 w W root (.slice A N.length c) → Calls Try.prog 6 #[.agg #[.int .i64 root, .slice A N.length c], .int .i64 1048576] W fun e w' => e = .returned (.int .i64 r) ∧ Below W.heap.size W w')
    (hrep : Go.Rf.rep w (All w) (.sl nodeT) N [.slice A N.length c]) (hl : okLen N.length) (hok : ∀ n, n ∈ N → okNode n) (hmk : 1 + szN N ≤ 100000000) :
    Calls Try.prog 3 #[.agg #[.int .i64 root, .slice A N.length c], .string low, .string high] w fun e w' => e = .returned (.bool true) ∧ Below w.heap.size w w' := by
  obtain ⟨ls, hls⟩ := lst_of root N low high hok
  have okl : okLen (toP ls).length := by rw [Go.Proofs.Ytcolgghllacloaa.R.toP_len]; have := hls.len; unfold okLen; omega
  have okl' : okLen ls.length := by have := hls.len; unfold okLen; omega
  have a1 := Aside0.mk (show A0 w (w.alloc (.cells #[.int .i64 root, .slice A N.length c] 24)) root (.slice A N.length c) from ⟨CellsAt.new _ _ _, (Below.refl _ w).alloc (Nat.le_refl _) _⟩)
  have HS := Aside0.mk hsz
  have HR := Aside0.mk (And.intro hrep (And.intro hl hok))
  have HK := Aside0.mk (And.intro hmk hls)
  have HO := Aside0.mk (And.intro okl okl')
  clear hsz hrep hl hok hmk hls okl okl'
  go_enter Try.func3, Try.ntmps3
  go_wp2_with fail
  refine (HS.out _ a1.out).mono ?_
  rintro e w2 ⟨rfl, m2⟩
  have a2 := a1.out.below m2
  have A2 := Aside0.mk a2
  have t0 : w2.cell? ⟨w.heap.size, 0, none⟩ = some (.int .i64 root) := a2.box.cell 0
  have t1 : w2.cell? ⟨w.heap.size, 1, none⟩ = some (.slice A N.length c) := a2.box.cell 1
  clear m2 a2 a1
  go_wp2_with fail
  refine (A2.out.toTree HR.out.1 HR.out.2.1 HR.out.2.2).mono ?_
  rintro e w3 ⟨g1, rfl, T1, m3⟩
  have A3 := Aside0.mk (A2.out.below m3)
  have HT1 := Aside0.mk T1
  clear t0 t1 A2 T1 m3
  go_wp2_with fail
  refine (Go.Proofs.Ytcolgghllacloaa.R.ask_list HT1.out.rep HK.out.2.spec).mono ?_
  rintro e w4 ⟨u0, rfl, hu, m4⟩
  have a4 := A3.out.below m4
  have A4 := Aside0.mk a4
  have HZ4 := Aside0.mk (show w.heap.size < w4.heap.size from a4.box.lt)
  have HU := Aside0.mk hu
  have t0 : w4.cell? ⟨w.heap.size, 0, none⟩ = some (.int .i64 root) := a4.box.cell 0
  have t1 : w4.cell? ⟨w.heap.size, 1, none⟩ = some (.slice A N.length c) := a4.box.cell 1
  obtain ⟨uA, uc, uvs, eu, _⟩ := hu
  obtain rfl : u0 = .slice uA (toP ls).length uc := (List.cons.inj eu).1
  clear a4 A3 HT1 m4 eu
  go_wp2_with fail
  refine (A4.out.toTree HR.out.1 HR.out.2.1 HR.out.2.2).mono ?_
  rintro e w5 ⟨g2, rfl, T2, m5⟩
  have a5 := A4.out.below m5
  have hu5 : Go.Rf.rep w5 (fun b => b < w4.heap.size) (.sl pairT) (toP ls) [.slice uA (toP ls).length uc] := HU.out.ext (fun b hb => m5.block b hb) (fun b hb => hb)
  obtain ⟨W6, hW6⟩ : ∃ W6, W6 = w5.alloc (.cells #[.int .i64 root, .slice (some ⟨g2, 0, none⟩) N.length N.length] 30) := ⟨_, rfl⟩
  have hb6 : Below w5.heap.size w5 W6 := by rw [hW6]; exact (Below.refl _ w5).alloc (Nat.le_refl _) _
  have a6 := a5.below hb6
  have x6 : CellsAt W6 w5.heap.size 30 #[.int .i64 root, .slice (some ⟨g2, 0, none⟩) N.length N.length] := by rw [hW6]; exact CellsAt.new _ _ _
  have T6 := T2.below hb6
  have hu6 : Go.Rf.rep W6 (fun b => b < w4.heap.size) (.sl pairT) (toP ls) [.slice uA (toP ls).length uc] := hu5.ext (fun b hb => hb6.block b (by have := m5.size; omega)) (fun b hb => hb)
  have z6 : w4.heap.size ≤ w5.heap.size ∧ w5.heap.size < W6.heap.size := ⟨m5.size, x6.lt⟩
  have A6 := Aside0.mk a6
  have X6 := Aside0.mk x6
  have HT6 := Aside0.mk T6
  have HU6 := Aside0.mk hu6
  have Z6 := Aside0.mk z6
  clear t0 t1 a5 hu5 hb6 a6 x6 T6 hu6 z6 T2 m5 A4 HU
  go_wp2_with fail
  rw [← hW6]
  clear hW6
  refine (HK.out.2.impl W6 w4.heap.size g2 HT6.out).mono ?_
  rintro e w7 ⟨v, rfl, hv, m7⟩
  obtain ⟨v1, v2, v3⟩ := hv.row
  have b7 : B1 w w7 root (.slice A N.length c) w4.heap.size W6.heap.size (toP ls) (.slice uA (toP ls).length uc) v (toP ls) := by
    have hz := Z6.out
    refine ⟨A6.out.below m7, HU6.out.ext (fun b hb => m7.block b (by omega)) (fun _ h => h), v1, v2, v3, ?_, by omega, m7.size⟩
    have := HZ4.out
    omega
  have B7 := Aside0.mk b7
  have M7 := Aside0.mk m7
  obtain ⟨vA, vn, vc, rfl⟩ := v2
  clear hv v1 v3 b7 m7 A6 HU6
  go_wp2_with fail
  refine (Go.Proofs.Ytcolgghllacloaa.R.ask_eqP HO.out.1 B7.out.vrep B7.out.urep).mono ?_
  rintro e w8 ⟨rfl, m8⟩
  have b8 := B7.out.below m8
  have M8 := Aside0.mk (M7.out.trans (m8.mono M7.out.size))
  have x8 := X6.out.below M8.out Z6.out.2
  have B8 := Aside0.mk b8
  have X8 := Aside0.mk x8
  have t0 : w8.cell? ⟨w.heap.size, 0, none⟩ = some (.int .i64 root) := b8.a.box.cell 0
  have t1 : w8.cell? ⟨w.heap.size, 1, none⟩ = some (.slice A N.length c) := b8.a.box.cell 1
  have t2 : w8.cell? ⟨w5.heap.size, 0, none⟩ = some (.int .i64 root) := x8.cell 0
  have t3 : w8.cell? ⟨w5.heap.size, 1, none⟩ = some (.slice (some ⟨g2, 0, none⟩) N.length N.length) := x8.cell 1
  have bd := b8.below (W' := w8.drew) ⟨rfl, rfl, rfl, Nat.le_refl _, fun _ _ => rfl⟩
  have xd : CellsAt w8.drew w5.heap.size 30 #[.int .i64 root, .slice (some ⟨g2, 0, none⟩) N.length N.length] := x8
  have md : Below W6.heap.size W6 w8.drew := ⟨M8.out.os, M8.out.tape, M8.out.output, M8.out.size, M8.out.block⟩
  clear m8 b8 x8 X6 B7 M7 M8 B8 X8
  go_wp2_with fail
  go_region_held3 (fun w' => w'.cell? ⟨w5.heap.size, 0, none⟩ = some (.int .i64 root) ∧ w'.cell? ⟨w5.heap.size, 1, none⟩ = some (.slice (some ⟨g2, 0, none⟩) N.length N.length) ∧ w'.cell? ⟨w.heap.size, 0, none⟩ = some (.int .i64 root) ∧ w'.cell? ⟨w.heap.size, 1, none⟩ = some (.slice A N.length c)) (first | exact ⟨xd.cell 0, xd.cell 1, bd.a.box.cell 0, bd.a.box.cell 1⟩)
    (first | (go_at_call 8; refine (bd.a.toTree HR.out.1 HR.out.2.1 HR.out.2.2).mono ?_; rintro e w9 ⟨g3, rfl, T3, m9⟩; have b9 := bd.below m9; have x9 := xd.below m9 xd.lt; have q9 := md.trans (m9.mono md.size); clear bd xd md m9; have bd := b9; have xd := x9; have md := q9; clear b9 x9 q9) | (go_at_call 11; refine (Go.Proofs.Ytcolgghllacloaa.R.ask_eqT HR.out.2.1 HR.out.2.2 (HT6.out.below md).rep T3.rep).mono ?_; rintro e w10 ⟨rfl, m10⟩; have b10 := bd.below m10; have x10 := xd.below m10 xd.lt; have q10 := md.trans (m10.mono md.size); clear bd xd md m10; have bd := b10; have xd := x10; have md := q10; clear b10 x10 q10))
  have t2 : w10.cell? ⟨w5.heap.size, 0, none⟩ = some (.int .i64 root) := xd.cell 0
  have t3 : w10.cell? ⟨w5.heap.size, 1, none⟩ = some (.slice (some ⟨g2, 0, none⟩) N.length N.length) := xd.cell 1
  have BD := Aside0.mk bd
  have MD := Aside0.mk md
  clear bd md xd T3
  rename_i hHeld
  clear hHeld
  go_wp2_with fail
  obtain ⟨cur, E, lg, hc, hs, lE, hN⟩ := HT6.out
  have mk := markTree_any w10 root g2 N.length 1 E cur N hs (Nat.le_trans lE MD.out.size) (hc.below MD.out hc.lt) HR.out.2.1 (hN.keep (fun x h1 h2 => MD.out.block x (by omega)) (fun _ _ => rfl)) HK.out.1 (fun i n hn => HR.out.2.2 n (List.mem_of_getElem? hn))
  refine mk.mono ?_
  rintro e w11 ⟨rfl, k11⟩
  have b11 := BD.out.keep' k11 lg lE
  have B11 := Aside0.mk b11
  clear mk hc hs hN BD MD t2 t3 b11 k11 HT6
  go_wp2_with fail
  refine (Go.Proofs.Ytcolgghllacloaa.R.ask_eqP HO.out.1 B11.out.vrep B11.out.urep).mono ?_
  rintro e w12 ⟨rfl, m12⟩
  have B12 := Aside0.mk (B11.out.below m12)
  clear m12 B11
  go_wp2_with fail
  refine (Go.Proofs.Ytcolgghllacloaa.R.ask_markP (b := 1) HO.out.1 (by omega) B12.out.row B12.out.vs (fun g hg => (B12.out.vb g hg).2)).mono ?_
  rintro e w13 ⟨rfl, hv13, k13⟩
  have B13 := Aside0.mk (B12.out.mark k13 hv13)
  clear hv13 k13 B12
  go_wp2_with fail
  refine (Go.Proofs.Ytcolgghllacloaa.R.ask_heldP (b := 1) HO.out.1 (by omega) B13.out.vrep).mono ?_
  rintro e w14 ⟨rfl, m14⟩
  have b14 := B13.out.below m14
  have B14 := Aside0.mk b14
  have t0 : w14.cell? ⟨w.heap.size, 0, none⟩ = some (.int .i64 root) := b14.a.box.cell 0
  have t1 : w14.cell? ⟨w.heap.size, 1, none⟩ = some (.slice A N.length c) := b14.a.box.cell 1
  clear m14 b14 B13
  go_wp2_with fail
  refine (B14.out.a.toTree HR.out.1 HR.out.2.1 HR.out.2.2).mono ?_
  rintro e w15 ⟨g4, rfl, T4, m15⟩
  have B15 := Aside0.mk (B14.out.below m15)
  have HT4 := Aside0.mk T4
  clear m15 B14 T4 t0 t1
  go_wp2_with fail
  refine (HK.out.2.impl w15 _ g4 HT4.out).mono ?_
  rintro e w16 ⟨h0, rfl, hh, m16⟩
  obtain ⟨r1, r2, r3⟩ := hh.row
  have HH := Aside0.mk (row_rep r1 (fun g hg => (r3 g hg).2))
  have B16 := Aside0.mk (B15.out.below m16)
  obtain ⟨hA, hn, hc, rfl⟩ := r2
  clear m16 B15 hh r1 r3 HT4
  go_wp2_with fail
  refine (Go.Proofs.Ytcolgghllacloaa.R.ask_eqP HO.out.1 HH.out B16.out.urep).mono ?_
  rintro e w17 ⟨rfl, m17⟩
  have B17 := Aside0.mk (B16.out.below m17)
  clear m17 B16 HH
  go_wp2_with fail
  refine (Go.Proofs.Ytcolgghllacloaa.R.ask_heldP (b := 1) HO.out.1 (by omega) B17.out.vrep).mono ?_
  rintro e w18 ⟨rfl, m18⟩
  have B18 := Aside0.mk (B17.out.below m18)
  clear m18 B17
  go_wp2_with fail
  go_ret
  exact ⟨rfl, B18.out.a.old⟩
end Go.Proofs.Ytcolgghllacloaa.Q
end

section
/-! Rf: what a tree's measure says of its rows. -/
set_option autoImplicit false
set_option linter.unusedSimpArgs false
set_option linter.unusedVariables false
namespace Go.Proofs.Ytcolgghllacloaa.R
open Go.Rf
open Go.Proofs.Ytcolgghllacloaa.Q (szN)
theorem szStringS_le (l : List ByteArray) (hlen : l.length ≤ 9223372036854775807) (b : Int) (h0 : 0 ≤ b) (hb : b ≤ 1048576) (hs : ∀ y, y ∈ l → y.size ≤ 9223372036854775807) :
    ∃ r, Ev (fun k => F56 k l b) r ∧ (r.1.1 < 0 ∨ (0 ≤ r.1.1 ∧ r.1.1 + l.length ≤ b ∧ okLen l.length)) := by
  have st : ∀ {r}, Ev (fun k => if decide (IntKind.i64.wrap (b - (l.length : Int)) < (0 : Int)) = true then some (((-1 : Int), ()), ((), (), ())) else F56c5 k l (IntKind.i64.wrap (b - (l.length : Int))) (0 : Int)) r → Ev (fun k => F56 k l b) r := fun h => Ev.step 2 (fun k => F56_eq k l b) h
  rw [wrap64 (by omega) (by omega)] at st
  by_cases hn : b - (l.length : Int) < 0
  · refine ⟨(((-1 : Int), ()), ((), (), ())), st ?_, .inl (by decide : (-1 : Int) < 0)⟩
    simp only [hn, decide_true, if_true]
    exact Ev.now _
  · obtain ⟨r, h1, h2⟩ := size_loop (L := fun k b i => F56c5 k l b i) (x0 := l) (g := fun _ y b => some (IntKind.i64.wrap (b - (y.size : Int)))) (p := id) (no := (((-1 : Int), ()), ((), (), ()))) (fin := fun b => ((b, ()), ((), (), ()))) (Q := fun _ => True) hlen (fun k b i => F56c5_eq k l b i)
      (B := 1048576) (fun y hy b hb0 hb1 => ⟨_, Ev.now _, by
        have := hs y hy
        simp only [id]
        rw [wrap64 (by omega) (by omega)]
        by_cases hc : b - (y.size : Int) < 0
        · exact .inl hc
        · exact .inr ⟨by omega, by omega, trivial⟩⟩) (b - (l.length : Int)) (by omega) (by omega)
    refine ⟨r, st ?_, ?_⟩
    · have : decide (b - (l.length : Int) < 0) = false := by simp; omega
      simp only [this, Bool.false_eq_true, if_false]
      exact h1
    · rcases h2 with rfl | ⟨b', rfl, h3, h4, _⟩
      · exact .inl (by decide : (-1 : Int) < 0)
      · exact .inr ⟨h3, by show b' + (l.length : Int) ≤ b; omega, by unfold okLen; omega⟩
theorem szIntS_le (l : List Int) (hlen : l.length ≤ 9223372036854775807) (b : Int) (h0 : 0 ≤ b) (hb : b ≤ 1048576) : ∃ r, Ev (fun k => F57 k l b) r ∧ (r.1.1 < 0 ∨ (0 ≤ r.1.1 ∧ r.1.1 + l.length ≤ b ∧ okLen l.length)) := by
  have st : ∀ {r}, Ev (fun _ => if decide (IntKind.i64.wrap (b - (l.length : Int)) < (0 : Int)) = true then some (((-1 : Int), ()), ((), (), ())) else some (((IntKind.i64.wrap (b - (l.length : Int))), ()), ((), (), ()))) r → Ev (fun k => F57 k l b) r := fun h => Ev.step 2 (fun k => F57_eq k l b) h
  rw [wrap64 (by omega) (by omega)] at st
  by_cases hn : b - (l.length : Int) < 0
  · refine ⟨(((-1 : Int), ()), ((), (), ())), st ?_, .inl (by decide : (-1 : Int) < 0)⟩
    simp only [hn, decide_true, if_true]
    exact Ev.now _
  · refine ⟨(((b - (l.length : Int)), ()), ((), (), ())), st ?_, .inr ?_⟩
    · have : decide (b - (l.length : Int) < 0) = false := by simp; omega
      simp only [this, Bool.false_eq_true, if_false]
      exact Ev.now _
    · exact ⟨by show 0 ≤ b - (l.length : Int); omega, by show b - (l.length : Int) + (l.length : Int) ≤ b; omega, by unfold okLen; omega⟩
theorem szNode_le (n : NodeT) (hf : fitsN n) (b : Int) (h0 : 0 ≤ b) (hb : b ≤ 1048576) : ∃ r, Ev (fun k => F38 k n.1 n.2.1 n.2.2.1 n.2.2.2.1 b) r ∧ (r.1.1 < 0 ∨ (0 ≤ r.1.1 ∧ r.1.1 + (n.2.1.length + n.2.2.1.length + n.2.2.2.1.length : Nat) ≤ b ∧ okNode n)) := by
  obtain ⟨f1, f2, f3, f4, f5⟩ := hf
  have e := fun k => F38_eq k n.1 n.2.1 n.2.2.1 n.2.2.2.1 b
  have neg1 : ((-1 : Int) < 0) := by decide
  obtain ⟨r1, h1, c1⟩ := szStringS_le n.2.1 f1 b h0 hb f2
  rcases c1 with c1 | ⟨c1, d1, e1⟩
  · refine ⟨(((-1 : Int), ()), (((), (), (), (), ()), (), ())), Ev.step 2 e (Ev.bind h1 ?_), .inl neg1⟩
    simp only [c1, decide_true, if_true]
    exact Ev.now _
  obtain ⟨r2, h2, c2⟩ := szStringS_le n.2.2.1 f3 r1.1.1 c1 (by omega) f4
  have n1 : decide (r1.1.1 < 0) = false := by simp; omega
  rcases c2 with c2 | ⟨c2, d2, e2⟩
  · refine ⟨(((-1 : Int), ()), (((), (), (), (), ()), (), ())), Ev.step 2 e (Ev.bind h1 ?_), .inl neg1⟩
    simp only [n1, Bool.false_eq_true, if_false]
    refine Ev.bind h2 ?_
    simp only [c2, decide_true, if_true]
    exact Ev.now _
  obtain ⟨r3, h3, c3⟩ := szIntS_le n.2.2.2.1 f5 r2.1.1 c2 (by omega)
  have n2 : decide (r2.1.1 < 0) = false := by simp; omega
  rcases c3 with c3 | ⟨c3, d3, e3⟩
  · refine ⟨(((-1 : Int), ()), (((), (), (), (), ()), (), ())), Ev.step 2 e (Ev.bind h1 ?_), .inl neg1⟩
    simp only [n1, Bool.false_eq_true, if_false]
    refine Ev.bind h2 ?_
    simp only [n2, Bool.false_eq_true, if_false]
    refine Ev.bind h3 ?_
    simp only [c3, decide_true, if_true]
    exact Ev.now _
  · have n3 : decide (r3.1.1 < 0) = false := by simp; omega
    refine ⟨((r3.1.1, ()), (((), (), (), (), ()), (), ())), Ev.step 2 e (Ev.bind h1 ?_), .inr ⟨c3, by show r3.1.1 + _ ≤ b; omega, e1, e2, e3⟩⟩
    simp only [n1, Bool.false_eq_true, if_false]
    refine Ev.bind h2 ?_
    simp only [n2, Bool.false_eq_true, if_false]
    refine Ev.bind h3 ?_
    simp only [n3, Bool.false_eq_true, if_false]
    exact Ev.now _
theorem szNodeS_le (l : List NodeT) (hlen : l.length ≤ 9223372036854775807) (hf : ∀ n, n ∈ l → fitsN n) (b : Int) (h0 : 0 ≤ b) (hb : b ≤ 1048576) : ∃ r, Ev (fun k => F23 k l b) r ∧ (r.1.1 < 0 ∨ (0 ≤ r.1.1 ∧ okLen l.length ∧ (∀ n, n ∈ l → okNode n) ∧ (szN l : Int) ≤ b)) := by
  have st : ∀ {r}, Ev (fun k => if decide (IntKind.i64.wrap (b - (l.length : Int)) < (0 : Int)) = true then some (((-1 : Int), ()), ((), (), ())) else F23c5 k l (IntKind.i64.wrap (b - (l.length : Int))) (0 : Int)) r → Ev (fun k => F23 k l b) r := fun h => Ev.step 2 (fun k => F23_eq k l b) h
  rw [wrap64 (by omega) (by omega)] at st
  by_cases hn : b - (l.length : Int) < 0
  · refine ⟨(((-1 : Int), ()), ((), (), ())), st ?_, .inl (by decide : (-1 : Int) < 0)⟩
    simp only [hn, decide_true, if_true]
    exact Ev.now _
  · have hsz : ∀ m : List NodeT, szN m = m.length + (m.map fun n => n.2.1.length + n.2.2.1.length + n.2.2.2.1.length).sum := by
      intro m
      induction m with
      | nil => rfl
      | cons n m ih => simp only [szN, List.map_cons, List.sum_cons, List.length_cons] at ih ⊢; omega
    have key : ∀ (m i : Nat) (c : Int), i + m = l.length → 0 ≤ c → c ≤ 1048576 → ∃ r, Ev (fun k => F23c5 k l c (i : Int)) r ∧ (r.1.1 < 0 ∨ (0 ≤ r.1.1 ∧ (∀ n, n ∈ l.drop i → okNode n) ∧ r.1.1 + (((l.drop i).map fun n => n.2.1.length + n.2.2.1.length + n.2.2.2.1.length).sum : Nat) ≤ c)) := by
      intro m
      induction m with
      | zero =>
        intro i c hi h1 h2
        obtain rfl : i = l.length := by omega
        refine ⟨((c, ()), ((), (), ())), Ev.step 1 (fun k => F23c5_eq k _ _ _) ?_, .inr ⟨h1, by simp, by simp⟩⟩
        simp only [lt_false (Nat.le_refl _), Bool.false_eq_true, if_false]
        exact Ev.now _
      | succ m ih =>
        intro i c hi h1 h2
        have hil : i < l.length := by omega
        have hd : l.drop i = l[i] :: l.drop (i + 1) := List.drop_eq_getElem_cons hil
        obtain ⟨r, e1, e2⟩ := szNode_le l[i] (hf _ (List.getElem_mem hil)) c h1 h2
        have hy : l[i]? = some l[i] := List.getElem?_eq_getElem hil
        rcases e2 with e2 | ⟨e2, e3, e4⟩
        · refine ⟨(((-1 : Int), ()), ((), (), ())), Ev.step 1 (fun k => F23c5_eq k _ _ _) ?_, .inl (by decide : (-1 : Int) < 0)⟩
          simp only [lt_true hil, ge0, if_true, Int.toNat_natCast, hy, Option.bind_some]
          refine Ev.bind e1 ?_
          simp only [e2, decide_true, if_true]
          exact Ev.now _
        · obtain ⟨r', f1, f2⟩ := ih (i + 1) r.1.1 (by omega) e2 (by omega)
          refine ⟨r', Ev.step 1 (fun k => F23c5_eq k _ _ _) ?_, ?_⟩
          · have hneg : decide (r.1.1 < (0 : Int)) = false := decide_eq_false (by omega)
            simp only [lt_true hil, ge0, if_true, Int.toNat_natCast, hy, Option.bind_some]
            refine Ev.bind e1 ?_
            simp only [hneg, Bool.false_eq_true, if_false]
            rw [wrap_succ (by omega)]
            exact f1
          · rcases f2 with f2 | ⟨f2, f3, f4⟩
            · exact .inl f2
            · refine .inr ⟨f2, ?_, ?_⟩
              · rw [hd]
                intro n hn
                rcases List.mem_cons.1 hn with rfl | hn
                · exact e4
                · exact f3 n hn
              · rw [hd, List.map_cons, List.sum_cons]
                push_cast at e3 f4 ⊢
                omega
    obtain ⟨r, h1, h2⟩ := key l.length 0 (b - (l.length : Int)) (by omega) (by omega) (by omega)
    refine ⟨r, st ?_, ?_⟩
    · have : decide (b - (l.length : Int) < 0) = false := by simp; omega
      simp only [this, Bool.false_eq_true, if_false]
      exact h1
    · rcases h2 with h2 | ⟨h2, h3, h4⟩
      · exact .inl h2
      · rw [List.drop_zero] at h3 h4
        exact .inr ⟨h2, by unfold okLen; omega, h3, by rw [hsz]; push_cast at h4 ⊢; omega⟩
theorem szTree_le (t : Int) (l : List NodeT) (hlen : l.length ≤ 9223372036854775807) (hf : ∀ n, n ∈ l → fitsN n) : ∃ (r : Int) (q : _), Ev (fun k => F6 k t l 1048576) ((r, ()), q) ∧ (r < 0 ∨ (0 ≤ r ∧ okLen l.length ∧ (∀ n, n ∈ l → okNode n) ∧ szN l ≤ 1048576)) := by
  obtain ⟨r, h1, h2⟩ := szNodeS_le l hlen hf 1048576 (by decide) (by decide)
  rcases h2 with h2 | ⟨h2, h3, h4, h5⟩
  · refine ⟨-1, (((), (), ()), (), ()), Ev.step 2 (fun k => F6_eq k t l 1048576) (Ev.bind h1 ?_), .inl (by decide : (-1 : Int) < 0)⟩
    simp only [h2, decide_true, if_true]
    exact Ev.now _
  · refine ⟨r.1.1, (((), (), ()), (), ()), Ev.step 2 (fun k => F6_eq k t l 1048576) (Ev.bind h1 ?_), .inr ⟨h2, h3, h4, by omega⟩⟩
    have : decide (r.1.1 < 0) = false := by simp; omega
    simp only [this, Bool.false_eq_true, if_false]
    exact Ev.now _
end Go.Proofs.Ytcolgghllacloaa.R
end

section
namespace Go.Proofs.Ytcolgghllacloaa.Q
open Go.Rf (nodeT rowrep Here vSh shWf ShRep)
open Go.Proofs.Ytcolgghllacloaa.R (okNode okLen PairT pairT toP mkP All Sound)
open Go.RowKit Go.Proofs.Ytcolgghllacloaa.Q Go.Proofs.YtcolgghllacloaaW.PrintWords Go.Proofs.YtcolgghllacloaaW.PrintLast Go.Proofs.YtcolgghllacloaaW.PrintMore
set_option linter.unusedVariables false
set_option linter.unusedSimpArgs false
abbrev treeTI : Go.Rf.TI := ⟨true, [.int .i64, .sl (.pair .bool (.pair (.sl .str) (.pair (.sl .str) (.pair (.sl (.int .i64)) .unit))))], [(0, 1, false), (1, 1, false)], 32⟩
abbrev strTI : Go.Rf.TI := ⟨false, [.str], [], 16⟩
theorem law_all (w : World) (v0 : Value) (y0 : (vSh treeTI).D) (v1 : Value) (y1 : (vSh strTI).D) (v2 : Value) (y2 : (vSh strTI).D) (h0 : ShRep w (Here w) (vSh treeTI) y0 v0 []) (w0 : shWf (vSh treeTI) y0) (h1 : ShRep w (Here w) (vSh strTI) y1 v1 []) (w1 : shWf (vSh strTI) y1) (h2 : ShRep w (Here w) (vSh strTI) y2 v2 []) (w2 : shWf (vSh strTI) y2) :
    Calls Try.prog 3 #[v0, v1, v2] w fun e w' => e = .returned (.bool true) ∧ Below w.heap.size w w' := by
  obtain ⟨root, N, ⟨⟩⟩ := y0
  obtain ⟨us, rfl, hs⟩ := h0
  obtain ⟨us⟩ := us
  match us, hs with
  | [u, v], ⟨f, g, e1, ⟨hu, _⟩, f2, g2, e2, ⟨hv, _⟩, e3⟩ =>
    obtain rfl : u = .int .i64 root := (List.cons.inj (show [u] = [Value.int .i64 root] from hu)).1
    have hv' : Go.Rf.rep w (All w) (.sl nodeT) N [v] := hv
    have e1 : v1 = .string y1 := (List.cons.inj (show [v1] = [Value.string y1] from h1.1)).1
    have e2 : v2 = .string y2 := (List.cons.inj (show [v2] = [Value.string y2] from h2.1)).1
    subst e1 e2
    obtain ⟨hlen, hfit⟩ := Go.Proofs.Ytcolgghllacloaa.R.fits_of (l := N) w0.2.1
    obtain ⟨A, c, vs, ev, _⟩ := id hv'
    obtain rfl : v = .slice A N.length c := (List.cons.inj ev).1
    by_cases b1 : (1048576 : Int) < (y1.size : Int)
    · exact law_big1 w root A N.length c y1 y2 b1
    by_cases b2 : (1048576 : Int) < (y2.size : Int)
    · exact law_big2 w root A N.length c y1 y2 b1 b2
    obtain ⟨r, q, hev, hr⟩ := Go.Proofs.Ytcolgghllacloaa.R.szTree_le root N hlen hfit
    have hsz : ∀ W, A0 w W root (.slice A N.length c) → Calls Try.prog 6 #[.agg #[.int .i64 root, .slice A N.length c], .int .i64 1048576] W fun e w' => e = .returned (.int .i64 r) ∧ Below W.heap.size W w' := fun W hW => Go.Proofs.Ytcolgghllacloaa.R.ask_sz (hW.rep hv') hev
    rcases hr with hr | ⟨r0, r1, r2, r3⟩
    · exact law_sz w root A N.length c y1 y2 b1 b2 r hr hsz
    · exact law_main w root A c N y1 y2 b1 b2 r (by omega) hsz hv' r1 r2 (by omega)
end Go.Proofs.Ytcolgghllacloaa.Q
end

section
/-! Rf: the row of a law, out of its walk. -/
set_option autoImplicit false
namespace Go.Proofs.Ytcolgghllacloaa.fnExactTreeList
open Go.Rf Go.Proofs.Ytcolgghllacloaa.R Go.ChangeShapes Go.WideShapes Go.ChangeAt Go.RowKit
set_option linter.unusedVariables false
theorem walk (w : World) (v0 : Value) (y0 : (vSh ⟨true, [.int .i64, .sl (.pair .bool (.pair (.sl .str) (.pair (.sl .str) (.pair (.sl (.int .i64)) .unit))))], [(0, 1, false), (1, 1, false)], 32⟩).D) (v1 : Value) (y1 : (vSh ⟨false, [.str], [], 16⟩).D) (v2 : Value) (y2 : (vSh ⟨false, [.str], [], 16⟩).D) (h0 : ShRep w (Here w) (vSh ⟨true, [.int .i64, .sl (.pair .bool (.pair (.sl .str) (.pair (.sl .str) (.pair (.sl (.int .i64)) .unit))))], [(0, 1, false), (1, 1, false)], 32⟩) y0 v0 []) (w0 : shWf (vSh ⟨true, [.int .i64, .sl (.pair .bool (.pair (.sl .str) (.pair (.sl .str) (.pair (.sl (.int .i64)) .unit))))], [(0, 1, false), (1, 1, false)], 32⟩) y0) (h1 : ShRep w (Here w) (vSh ⟨false, [.str], [], 16⟩) y1 v1 []) (w1 : shWf (vSh ⟨false, [.str], [], 16⟩) y1) (h2 : ShRep w (Here w) (vSh ⟨false, [.str], [], 16⟩) y2 v2 []) (w2 : shWf (vSh ⟨false, [.str], [], 16⟩) y2) :
    Calls Try.prog 3 #[v0, v1, v2] w fun e w' => e = .returned (.bool true) ∧ Below w.heap.size w w' :=
  Go.Proofs.Ytcolgghllacloaa.Q.law_all w v0 y0 v1 y1 v2 y2 h0 w0 h1 w1 h2 w2
theorem own : ownKnob Try.prog.godebug = none := by kernel_rfl
theorem laidOut : laidOutB Try.prog = true := by kernel_rfl
set_option maxRecDepth 100000 in
theorem lifted (os : Os) (started : os.Started) (H : Type) (enc : TypeId × Value → H) :
    ReturnsInHanded {} Try.checked os 3 .any (Rows.fnExactTreeListSpec.pre6 enc Try.prog Try.f3 Rows.fnExactTreeListRow.domain false) (Rows.fnExactTreeListSpec.post enc Try.prog Try.f3 false true false false) := by
  refine returnsInHanded_of_change_sized (C := Try.checked) own started (by kernel_rfl) Try.func3
    (ChangeSpec.witness6 (enc := enc) (C := Try.checked) false ⟨#[], #[.agg #[.int .i64 0, .slice none 0 0], .string ByteArray.empty, .string ByteArray.empty], []⟩ 12 (by kernel_rfl) (by kernel_rfl) (by kernel_rfl) (by kernel_rfl)) ?_
  intro W base args ds gs before hval0 hW hcnd hsz0 _
  have hval : ∀ (j : Nat) t v, Try.f3.params[j]? = some t → args[j]? = some v → Value.okWide Try.prog W .any base t v := hval0
  have hW' := hW
  obtain ⟨p, q, hA0, hV, rfl, hfz, hnd⟩ := hW
  have hA : DataW.TrodAll enc Try.prog W 0 (fun _ => true) true Try.f3.params.toList args.toList ds p := hA0
  rw [Try.params3] at hA hval
  obtain ⟨v0, vs0, d0, ds0, p0, q0, hargs, rfl, rfl, h0, r0⟩ := trodAll_cons hA
  obtain ⟨v1, vs1, d1, ds1, p1, q1, rfl, rfl, rfl, h1, r1⟩ := trodAll_cons r0
  obtain ⟨v2, vs2, d2, ds2, p2, q2, rfl, rfl, rfl, h2, r2⟩ := trodAll_cons r1
  obtain ⟨rfl, rfl, rfl⟩ := trodAll_nil r2
  obtain rfl : args = #[v0, v1, v2] := by cases args; simp_all
  obtain ⟨rfl, rfl⟩ := trodVars_none hV
  have k0 := h0
  have lt0 : ∀ x ∈ p0, x.block < W.heap.size := by obtain ⟨m, hm⟩ := k0; exact DataW.trod_lt m _ _ _ hm
  obtain ⟨y0, hy0, w0⟩ := opnArg_ok (tab := tabs.ty) (P := Try.prog) (t := 24) (i := ⟨true, [.int .i64, .sl (.pair .bool (.pair (.sl .str) (.pair (.sl .str) (.pair (.sl (.int .i64)) .unit))))], [(0, 1, false), (1, 1, false)], 32⟩) (by kernel_rfl) (hval 0 24 v0 rfl rfl) h0
  have k1 := h1
  have lt1 : ∀ x ∈ p1, x.block < W.heap.size := by obtain ⟨m, hm⟩ := k1; exact DataW.trod_lt m _ _ _ hm
  obtain ⟨y1, hy1, w1⟩ := opnArg_ok (tab := tabs.ty) (P := Try.prog) (t := 9) (i := ⟨false, [.str], [], 16⟩) (by kernel_rfl) (hval 1 9 v1 rfl rfl) h1
  have k2 := h2
  have lt2 : ∀ x ∈ p2, x.block < W.heap.size := by obtain ⟨m, hm⟩ := k2; exact DataW.trod_lt m _ _ _ hm
  obtain ⟨y2, hy2, w2⟩ := opnArg_ok (tab := tabs.ty) (P := Try.prog) (t := 9) (i := ⟨false, [.str], [], 16⟩) (by kernel_rfl) (hval 2 9 v2 rfl rfl) h2
  clear hA0 hval0 hsz0
  refine (walk W v0 y0 v1 y1 v2 y2 hy0 w0 hy1 w1 hy2 w2).mono fun e W' ⟨he, bel⟩ => ?_
  subst he
  exact ⟨_, rfl, _, _, _, [], _, [], hW', trodAll_mk1 (shut_bool Try.underlying4 _), (trodAll_cons_mk (Below.trod laidOut (by kernel_rfl) (of_decide_eq_true (by kernel_rfl)) k0 bel lt0) (trodAll_cons_mk (Below.trod laidOut (by kernel_rfl) (of_decide_eq_true (by kernel_rfl)) k1 bel lt1) (trodAll_cons_mk (Below.trod laidOut (by kernel_rfl) (of_decide_eq_true (by kernel_rfl)) k2 bel lt2) trodAll_mk0))), rfl, bel.frame _, fun h => by cases h⟩
theorem over : Rows.fnExactTreeListRow.holds Try.pinned (OpenSpec.ofChange Rows.fnExactTreeListSpec) :=
  OpenClaim.holds_of_wide 3 Try.f3 rfl rfl rfl rfl rfl rfl rfl ⟨rfl, rfl, rfl, rfl, rfl⟩ rfl rfl rfl rfl rfl (by kernel_rfl) Try.func3 (by kernel_rfl)
    (of_decide_eq_true (by kernel_rfl)) (by unfold Func.isWrapper; first | (rw [if_pos (by decide +kernel)]; kernel_rfl) | (rw [if_neg (by decide +kernel)]; exact ⟨rfl, rfl⟩))
    (fun os started H enc _ => lifted os started H enc)
end Go.Proofs.Ytcolgghllacloaa.fnExactTreeList
end

section
/-- The row, under a short name, for the claim. -/
theorem Go.Proofs.Ytcolgghllacloaa.fnExactTreeList_holds : Go.Proofs.Ytcolgghllacloaa.Rows.FnExactTreeListSaid := Go.Proofs.Ytcolgghllacloaa.fnExactTreeList.over
#print axioms Go.Proofs.Ytcolgghllacloaa.fnExactTreeList_holds
end
