/- A part of the proof that the law FnExactKeyAbove answers true for every input: contracts of functions that it reaches, or its plain law. -/
import Derived.Test.YtldjfonpegffiaaRows
import Derived.WalkKit
import Derived.ProofKit
import Derived.OpenShut
import Derived.ShutString
import Derived.ChangeOld
import Derived.Below
import Derived.SizedLaws
import Derived.Test.YtldjfonpegffiaaWSized
import Derived.Test.YtldjfonpegffiaaCFnExactKeyAbovex0
import Derived.Test.YtldjfonpegffiaaCFnExactKeyAbovex1
namespace Go.Proofs.Ytldjfonpegffiaa.Q
open Go.RowKit Go.Proofs.Ytldjfonpegffiaa.Q Go.Proofs.YtldjfonpegffiaaW.PrintWords Go.Proofs.YtldjfonpegffiaaW.PrintLast Go.Proofs.YtldjfonpegffiaaW.PrintMore
end Go.Proofs.Ytldjfonpegffiaa.Q

namespace Go.Proofs.Ytldjfonpegffiaa.Q
open Go.RowKit
open Go.RowKit Go.Proofs.Ytldjfonpegffiaa.Q Go.Proofs.YtldjfonpegffiaaW.PrintWords Go.Proofs.YtldjfonpegffiaaW.PrintLast Go.Proofs.YtldjfonpegffiaaW.PrintMore
/-- The pure statement of laws_FnExactKeyAbove. -/
def laws_FnExactKeyAbove.Pure : Prop := ∀ (x0 : ByteArray), (fun s => s.size ≤ maxLen) x0 → ∃ k, laws_FnExactKeyAbove.f k x0 = some true
end Go.Proofs.Ytldjfonpegffiaa.Q

namespace Go.Proofs.Ytldjfonpegffiaa.Q
open Go.RowKit Go.Proofs.Ytldjfonpegffiaa.Q Go.Proofs.YtldjfonpegffiaaW.PrintWords Go.Proofs.YtldjfonpegffiaaW.PrintLast Go.Proofs.YtldjfonpegffiaaW.PrintMore
/-! ### Strings as lists of bytes -/
theorem ba_ext {s t : ByteArray} (h : s.data.toList = t.data.toList) : s = t := by
  cases s; cases t; congr; exact Array.ext' h
theorem ba_toList (s : ByteArray) : s.toList = s.data.toList := by rw [ByteArray.toList_eq]
theorem ba_toList_inj {s t : ByteArray} : s.toList = t.toList ↔ s = t :=
  ⟨fun h => ba_ext (by rw [← ba_toList, ← ba_toList, h]), fun h => by rw [h]⟩
theorem ba_size (s : ByteArray) : s.size = s.data.toList.length := by rw [Array.length_toList]; rfl
theorem u8_roundtrip (b : UInt8) : UInt8.ofNat ((b.toNat : Int)).toNat = b := by simp
theorem strOfNums_bytesOf (s : ByteArray) : strOfNums (bytesOf s) = s := by
  apply ba_ext
  rw [strOfNums_data, bytesOf, List.map_map]
  conv => rhs; rw [← List.map_id s.data.toList]
  apply List.map_congr_left
  intro b _
  simp
theorem bytesOf_inj {s t : ByteArray} (h : bytesOf s = bytesOf t) : s = t := by rw [← strOfNums_bytesOf s, h, strOfNums_bytesOf]
theorem strOfNums_append (xs ys : List Int) : strOfNums (xs ++ ys) = strOfNums xs ++ strOfNums ys := by
  apply ba_ext
  rw [strOfNums_data, ByteArray.data_append, Array.toList_append, strOfNums_data, strOfNums_data, List.map_append]
theorem bytesOf_append (s t : ByteArray) : bytesOf (s ++ t) = bytesOf s ++ bytesOf t := by
  unfold bytesOf
  rw [ByteArray.data_append, Array.toList_append, List.map_append]
theorem bytesOf_extract (s : ByteArray) (a b : Nat) : bytesOf (s.extract a b) = ((bytesOf s).take b).drop a := by
  unfold bytesOf
  rw [ByteArray.data_extract, Array.toList_extract, List.extract_eq_take_drop, ← List.map_take, ← List.map_drop, List.drop_take]
theorem bytesOf_range (s : ByteArray) : ∀ y ∈ bytesOf s, 0 ≤ y ∧ y ≤ 255 := by
  intro y hy
  unfold bytesOf at hy
  obtain ⟨b, _, rfl⟩ := List.mem_map.1 hy
  have := b.toNat_lt
  omega
theorem bytesOf_strOfNums {xs : List Int} (h : ∀ y ∈ xs, 0 ≤ y ∧ y ≤ 255) : bytesOf (strOfNums xs) = xs := by
  unfold bytesOf
  rw [strOfNums_data, List.map_map]
  conv => rhs; rw [← List.map_id xs]
  apply List.map_congr_left
  intro y hy
  obtain ⟨h0, h1⟩ := h y hy
  obtain ⟨n, rfl⟩ := Int.eq_ofNat_of_zero_le h0
  simp only [Function.comp_apply, Int.toNat_natCast, id_eq]
  rw [UInt8.toNat_ofNat', Nat.mod_eq_of_lt (by omega)]
theorem bytesOf_getElem (s : ByteArray) (i : Nat) (h : i < (bytesOf s).length) : (bytesOf s)[i] = bt s (i : Int) := by
  have := rd_bytesOf s (i : Int)
  unfold rd at this
  rw [Int.toNat_natCast, List.getD_eq_getElem?_getD, List.getElem?_eq_getElem h] at this
  exact this
theorem bytesOf_take_succ (s : ByteArray) (n : Nat) (h : n < s.size) : (bytesOf s).take (n + 1) = (bytesOf s).take n ++ [bt s (n : Int)] := by
  have hl : n < (bytesOf s).length := by rw [bytesOf_length]; exact h
  rw [List.take_succ_eq_append_getElem hl, bytesOf_getElem]
theorem bytesOf_empty : bytesOf (⟨#[]⟩ : ByteArray) = [] := rfl
theorem bytesOf_lit (l : List UInt8) : bytesOf ⟨l.toArray⟩ = l.map fun b => (b.toNat : Int) := rfl
theorem ba_append_size (s t : ByteArray) : (s ++ t).size = s.size + t.size := by simp
theorem bt_of_bytesOf {s t : ByteArray} (h : bytesOf s = bytesOf t) : s = t := bytesOf_inj h
theorem bytesOf_eq_nil {s : ByteArray} : bytesOf s = [] ↔ s = ⟨#[]⟩ := ⟨fun h => bytesOf_inj (h.trans bytesOf_empty.symm), fun h => by rw [h]; rfl⟩
end Go.Proofs.Ytldjfonpegffiaa.Q

/- The pure statement of FnExactKeyAbove. -/
namespace Go.Proofs.Ytldjfonpegffiaa.Pure
open Go.RowKit
open Go.RowKit Go.Proofs.Ytldjfonpegffiaa.Q Go.Proofs.YtldjfonpegffiaaW.PrintWords Go.Proofs.YtldjfonpegffiaaW.PrintLast Go.Proofs.YtldjfonpegffiaaW.PrintMore
theorem above_spec (s : ByteArray) (hs : s.size ≤ 9223372036854775806) : ∀ (n k : Nat), n ≤ s.size → n < k → spec_KeyAbove.l0 k s (n : Int) =
    some (if aboveLen s n = 0 then ⟨#[]⟩ else (s.extract 0 (aboveLen s n - 1)) ++ strOfNums [(bt s ((aboveLen s n - 1 : Nat) : Int) + 1) % 256]) := by
  intro n
  induction n with
  | zero =>
    intro k _ hk
    obtain ⟨k, rfl⟩ : ∃ m, k = m + 1 := ⟨k - 1, by omega⟩
    rfl
  | succ n ih =>
    intro k hn hk
    obtain ⟨k, rfl⟩ : ∃ m, k = m + 1 := ⟨k - 1, by omega⟩
    simp only [spec_KeyAbove.l0]
    have e1 : wrap64 (((n + 1 : Nat) : Int) - 1) = (n : Int) := by unfold wrap64; omega
    rw [if_pos (by omega), e1, if_pos (by omega), if_pos (by omega)]
    by_cases hb : bt s (n : Int) = 255
    · rw [if_pos hb, ih k (by omega) (by omega)]
      have : aboveLen s (n + 1) = aboveLen s n := if_pos hb
      rw [this]
    · rw [if_neg hb, if_neg (by omega), if_pos (by omega)]
      have h1 : aboveLen s (n + 1) = n + 1 := if_neg hb
      simp only [Option.bind_some]
      rw [if_pos (by rw [strOfNums_size]; simp only [ByteArray.size_extract, Int.toNat_natCast, List.length_singleton]; omega), h1, if_neg (by omega)]
      simp
theorem above_eq (s : ByteArray) (n : Nat) (hn : n + 1 ≤ s.size) (v : Int) :
    strOfNums ((bytesOf (s.extract 0 (n + 1))).set n v) = s.extract 0 n ++ strOfNums [v] := by
  have hl : ((bytesOf s).take n).length = n := by rw [List.length_take, bytesOf_length]; omega
  rw [bytesOf_extract, List.drop_zero, bytesOf_take_succ _ _ (by omega), List.set_append_right _ _ (by omega), hl, Nat.sub_self]
  show strOfNums ((bytesOf s).take n ++ [v]) = _
  rw [strOfNums_append]
  congr 1
  apply bytesOf_inj
  rw [bytesOf_extract, List.drop_zero, bytesOf_strOfNums (fun y hy => bytesOf_range s y (List.mem_of_mem_take hy))]
theorem FnExactKeyAbove : laws_FnExactKeyAbove.Pure := by
  intro s hs
  refine ⟨s.size + 1, ?_⟩
  unfold laws_FnExactKeyAbove.f
  by_cases h : (s.size : Int) > 1048576
  · rw [if_pos h]
  · rw [if_neg h]
    have h1 : spec_KeyAbove.f (s.size + 1) s = _ := above_spec s (by omega) s.size (s.size + 1) (Nat.le_refl _) (by omega)
    rw [h1]
    unfold impl_KeyAbove.f
    simp only [Option.bind_some]
    rw [if_pos (by omega)]
    simp only [Option.bind_some]
    by_cases hz : aboveLen s s.size = 0
    · rw [if_pos hz, if_pos hz, if_pos rfl]
    · rw [if_neg hz, if_neg hz]
      obtain ⟨n, hn⟩ : ∃ n, aboveLen s s.size = n + 1 := ⟨aboveLen s s.size - 1, by omega⟩
      have hle := aboveLen_le s s.size
      rw [hn]
      simp only [Nat.add_sub_cancel]
      rw [above_eq s n (by omega), if_pos rfl]
end Go.Proofs.Ytldjfonpegffiaa.Pure

/- That the law FnExactKeyAbove answers true for every input is proved. -/
namespace Go.Proofs.Ytldjfonpegffiaa.fnExactKeyAbove
open Go.ChangeShapes Go.WideShapes Go.ChangeAt Go.RowKit
open Go.ChangeMaps (open_string shut_string)
open Go.RowKit Go.Proofs.Ytldjfonpegffiaa.Q Go.Proofs.YtldjfonpegffiaaW.PrintWords Go.Proofs.YtldjfonpegffiaaW.PrintLast Go.Proofs.YtldjfonpegffiaaW.PrintMore
set_option linter.unusedVariables false
theorem walk (P : laws_FnExactKeyAbove.Pure) (v0 : Value) (x0 : ByteArray) (w : World) (h0 : v0 = .string x0) (w0 : (fun s => s.size ≤ maxLen) x0) :
    Calls Try.prog 3 #[v0] w fun e w' => e = .returned (.bool true) ∧ Below w.heap.size w w' := by
  obtain ⟨k, h⟩ := P x0 w0
  obtain rfl := h0
  refine (laws_FnExactKeyAbove.calls k x0 true w  h).mono ?_
  rintro e w' ⟨rfl, hd⟩
  exact ⟨rfl, hd⟩
theorem own : ownKnob Try.prog.godebug = none := by kernel_rfl
theorem laidOut : laidOutB Try.prog = true := by kernel_rfl
set_option maxRecDepth 100000 in
theorem lifted (os : Os) (started : os.Started) (H : Type) (enc : TypeId × Value → H) :
    ReturnsInHanded {} Try.checked os 3 .any (Rows.fnExactKeyAboveSpec.pre6 enc Try.prog Try.f3 Rows.fnExactKeyAboveRow.domain false) (Rows.fnExactKeyAboveSpec.post enc Try.prog Try.f3 false true false false) := by
  refine returnsInHanded_of_change_sized (C := Try.checked) own started (by kernel_rfl) Try.func3
    (ChangeSpec.witness6 (enc := enc) (C := Try.checked) false ⟨#[], #[.string ByteArray.empty], []⟩ 12 (by kernel_rfl) (by kernel_rfl) (by kernel_rfl) (by kernel_rfl)) ?_
  intro W base args ds gs before hval0 hW hcnd hsz0 _
  have hval : ∀ (j : Nat) t v, Try.f3.params[j]? = some t → args[j]? = some v → Value.okWide Try.prog W .any base t v := hval0
  have hW' := hW
  obtain ⟨p, q, hA0, hV, rfl, hfz, hnd⟩ := hW
  have hA : DataW.TrodAll enc Try.prog W 0 (fun _ => true) true Try.f3.params.toList args.toList ds p := hA0
  rw [Try.params3] at hA hval
  obtain ⟨v0, vs0, d0, ds0, p0, q0, hargs, rfl, rfl, h0, r0⟩ := trodAll_cons hA
  obtain ⟨rfl, rfl, rfl⟩ := trodAll_nil r0
  obtain rfl : args = #[v0] := by cases args; simp_all
  obtain ⟨rfl, rfl⟩ := trodVars_none hV
  have k0 := h0
  have lt0 : ∀ x ∈ p0, x.block < W.heap.size := by obtain ⟨m, hm⟩ := k0; exact DataW.trod_lt m _ _ _ hm
  obtain ⟨x0, rfl, rfl, rfl, w0⟩ := open_string Try.underlying9 (hval 0 9 v0 rfl rfl) h0
  clear hA0 hval0 hsz0
  refine (walk Pure.FnExactKeyAbove _ x0 W rfl w0).mono fun e W' ⟨he, bel⟩ => ?_
  subst he
  exact ⟨_, rfl, _, _, _, [], _, [], hW', trodAll_mk1 (shut_bool Try.underlying4 _), (trodAll_cons_mk (shut_string Try.underlying9 w0) trodAll_mk0), rfl, bel.frame _, fun h => by cases h⟩
theorem over : Rows.fnExactKeyAboveRow.holds Try.pinned (OpenSpec.ofChange Rows.fnExactKeyAboveSpec) :=
  OpenClaim.holds_of_wide 3 Try.f3 rfl rfl rfl rfl rfl rfl rfl ⟨rfl, rfl, rfl, rfl, rfl⟩ rfl rfl rfl rfl rfl (by kernel_rfl) Try.func3 (by kernel_rfl)
    (of_decide_eq_true (by kernel_rfl)) (by unfold Func.isWrapper; first | (rw [if_pos (by decide +kernel)]; kernel_rfl) | (rw [if_neg (by decide +kernel)]; exact ⟨rfl, rfl⟩))
    (fun os started H enc _ => lifted os started H enc)
theorem proved : Rows.FnExactKeyAboveSaid := over
#print axioms proved
end Go.Proofs.Ytldjfonpegffiaa.fnExactKeyAbove
namespace Go.Proofs.Ytldjfonpegffiaa
/-- The row, under a short name, for the claim. -/
theorem fnExactKeyAbove_holds : Rows.FnExactKeyAboveSaid := fnExactKeyAbove.proved
end Go.Proofs.Ytldjfonpegffiaa
