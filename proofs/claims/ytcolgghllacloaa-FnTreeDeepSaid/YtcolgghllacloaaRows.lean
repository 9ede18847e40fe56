/-
  No cell of these rows narrows 'for every input' (looked for: loops, veiled, ifaces, maps, wideKeys, modest, calm, conditions, laid).
  DERIVED. THE GIVEN ROWS OF THIS SEAT. 3 by the template 'for every input the law returns true; each argument reads behind the call as it read before'; 0 by the template 'total and deterministic' (their statements: YtcolgghllacloaaTotals.lean).
  GIVEN WITH THE SEED: the statements are not yours to turn. If you find one false, say at which input.
  Laid BY PROGRAM, IN A SANDBOX (cutbox-rows.mjs): the forced cells as the released guide's own fill.sh prints them over the translation 2a48f10aeb662bb2… (all of the seat's roots in one cut). By AI agents, Wed Nov 11 2026. No macro, syntax, notation, axiom, sorry.
-/
import Derived.Test.YtcolgghllacloaaChecked
import GoSem.Claim
import GoSem.ClaimJoined
import GoSem.ClaimMapViews
import Derived.JoinedTies
import Derived.KernelRfl
namespace Go.Proofs.Ytcolgghllacloaa
/- THE CELL 'sum', in the pinned program and in every row, IS THE sha256 OF THE DUMP (.gsa) THAT YtcolgghllacloaaProg.lean LOADS. Nothing in Lean hashes anything: it is a label: what it is worth is what the hold of that sum in a sandbox is worth. -/
noncomputable def Try.pinned : Pinned := { name := "ytcolgghllacloaa", sum := "2a48f10aeb662bb29dee59ee725fbfe903284e1b307f81103d8e15f0eacec95e", checked := Try.checked }
namespace Rows
def none {H : Type} : Left H := { results := [], args := [] }

/-- 'laws.FnExactTreeList': WHATEVER THE INPUT: true; the input reads as it did. -/
def fnExactTreeListSpec : ChangeSpec := { name := "fnExactTreeList", fn := fun _ => fun
  | [d1, d2, d3] => { results := [.lit (.bool true)], args := [d1, d2, d3] }
  | _ => none }
def fnExactTreeListRow : OpenClaim := { program := "ytcolgghllacloaa", sum := "2a48f10aeb662bb29dee59ee725fbfe903284e1b307f81103d8e15f0eacec95e", func := "loop.example/jetton/laws.FnExactTreeList", spec := "fnExactTreeList", unfollowed := true, recurses := true, apart := false }
def FnExactTreeListSaid : Prop := fnExactTreeListRow.holds Try.pinned (OpenSpec.ofChange fnExactTreeListSpec)

/-- ITS FALSE NEIGHBOUR: 'it returns false'. Refute it at one input. -/
def fnExactTreeListWrong : ChangeSpec := { name := "fnExactTreeList", fn := fun _ => fun
  | [d1, d2, d3] => { results := [.lit (.bool false)], args := [d1, d2, d3] }
  | _ => none }
def FnExactTreeListWrongFalsely : Prop := fnExactTreeListRow.holds Try.pinned (OpenSpec.ofChange fnExactTreeListWrong)

/-- 'laws.FnTreeDeep': WHATEVER THE INPUT: true; the input reads as it did. -/
def fnTreeDeepSpec : ChangeSpec := { name := "fnTreeDeep", fn := fun _ => fun
  | [d] => { results := [.lit (.bool true)], args := [d] }
  | _ => none }
def fnTreeDeepRow : OpenClaim := { program := "ytcolgghllacloaa", sum := "2a48f10aeb662bb29dee59ee725fbfe903284e1b307f81103d8e15f0eacec95e", func := "loop.example/jetton/laws.FnTreeDeep", spec := "fnTreeDeep", unfollowed := true, recurses := true, apart := false }
def FnTreeDeepSaid : Prop := fnTreeDeepRow.holds Try.pinned (OpenSpec.ofChange fnTreeDeepSpec)

/-- ITS FALSE NEIGHBOUR: 'it returns false'. Refute it at one input. -/
def fnTreeDeepWrong : ChangeSpec := { name := "fnTreeDeep", fn := fun _ => fun
  | [d] => { results := [.lit (.bool false)], args := [d] }
  | _ => none }
def FnTreeDeepWrongFalsely : Prop := fnTreeDeepRow.holds Try.pinned (OpenSpec.ofChange fnTreeDeepWrong)

/-- 'laws.FnTreeList': WHATEVER THE INPUT: true; the input reads as it did. -/
def fnTreeListSpec : ChangeSpec := { name := "fnTreeList", fn := fun _ => fun
  | [d] => { results := [.lit (.bool true)], args := [d] }
  | _ => none }
def fnTreeListRow : OpenClaim := { program := "ytcolgghllacloaa", sum := "2a48f10aeb662bb29dee59ee725fbfe903284e1b307f81103d8e15f0eacec95e", func := "loop.example/jetton/laws.FnTreeList", spec := "fnTreeList", unfollowed := true, recurses := true, apart := false }
def FnTreeListSaid : Prop := fnTreeListRow.holds Try.pinned (OpenSpec.ofChange fnTreeListSpec)

/-- ITS FALSE NEIGHBOUR: 'it returns false'. Refute it at one input. -/
def fnTreeListWrong : ChangeSpec := { name := "fnTreeList", fn := fun _ => fun
  | [d] => { results := [.lit (.bool false)], args := [d] }
  | _ => none }
def FnTreeListWrongFalsely : Prop := fnTreeListRow.holds Try.pinned (OpenSpec.ofChange fnTreeListWrong)

/- THE SECOND FORM. 'bulk': how many values and letters a reading holds, each counted each time it is reached (what is shared counts as often as it is met; a slice's spare places count too). A statement '..UptoSaid' is the law's where the arguments, and the package variables that the reading takes, are together of bulk at most 1048576: NARROWER than '..Said'. Prove '..Said' where nothing that the law and all that it calls make is longer than what came in: it says more and counts as full. Else prove '..UptoSaid'. A law counts once. -/
mutual
def uptoBulk {H : Type} : DataW H → Nat
  | .lit (.string bytes) => bytes.length + 1
  | .lit _ => 1
  | .nil => 1
  | .ptr d => uptoBulk d + 1
  | .slice elems spare => uptoBulkAll elems + uptoBulkAll spare + 1
  | .agg parts => uptoBulkAll parts + 1
  | .iface _ d => uptoBulk d + 1
  | .map entries => uptoBulkEntries entries + 1
  | .held _ => 1
def uptoBulkAll {H : Type} : List (DataW H) → Nat
  | [] => 0
  | d :: r => uptoBulk d + uptoBulkAll r
def uptoBulkEntries {H : Type} : List (Lit × DataW H) → Nat
  | [] => 0
  | x :: r => uptoBulkEntry x + uptoBulkEntries r
def uptoBulkEntry {H : Type} : Lit × DataW H → Nat
  | (.string bytes, d) => bytes.length + uptoBulk d + 1
  | (_, d) => uptoBulk d + 1
 end
def uptoSmall : (H : Type) → List (DataW H) → Bool := fun _ ds => decide (uptoBulkAll ds ≤ 1048576)
def OpenSpec.upto (s : _root_.Go.ChangeSpec) : _root_.Go.OpenSpec := { _root_.Go.OpenSpec.ofChange s with cond := some uptoSmall }

/-- 'laws.FnExactTreeList', WHERE WHAT IT READS IS OF BULK AT MOST 1048576: true; the input reads as it did. -/
def fnExactTreeListUptoRow : OpenClaim := { program := "ytcolgghllacloaa", sum := "2a48f10aeb662bb29dee59ee725fbfe903284e1b307f81103d8e15f0eacec95e", func := "loop.example/jetton/laws.FnExactTreeList", spec := "fnExactTreeList", unfollowed := true, recurses := true, apart := false, narrowed := true }
def FnExactTreeListUptoSaid : Prop := fnExactTreeListUptoRow.holds Try.pinned (OpenSpec.upto fnExactTreeListSpec)

/-- 'laws.FnTreeDeep', WHERE WHAT IT READS IS OF BULK AT MOST 1048576: true; the input reads as it did. -/
def fnTreeDeepUptoRow : OpenClaim := { program := "ytcolgghllacloaa", sum := "2a48f10aeb662bb29dee59ee725fbfe903284e1b307f81103d8e15f0eacec95e", func := "loop.example/jetton/laws.FnTreeDeep", spec := "fnTreeDeep", unfollowed := true, recurses := true, apart := false, narrowed := true }
def FnTreeDeepUptoSaid : Prop := fnTreeDeepUptoRow.holds Try.pinned (OpenSpec.upto fnTreeDeepSpec)

/-- 'laws.FnTreeList', WHERE WHAT IT READS IS OF BULK AT MOST 1048576: true; the input reads as it did. -/
def fnTreeListUptoRow : OpenClaim := { program := "ytcolgghllacloaa", sum := "2a48f10aeb662bb29dee59ee725fbfe903284e1b307f81103d8e15f0eacec95e", func := "loop.example/jetton/laws.FnTreeList", spec := "fnTreeList", unfollowed := true, recurses := true, apart := false, narrowed := true }
def FnTreeListUptoSaid : Prop := fnTreeListUptoRow.holds Try.pinned (OpenSpec.upto fnTreeListSpec)

end Rows
end Go.Proofs.Ytcolgghllacloaa
