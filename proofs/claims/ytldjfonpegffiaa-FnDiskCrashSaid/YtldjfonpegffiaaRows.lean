/-
  No cell of these rows narrows 'for every input' (looked for: loops, veiled, ifaces, maps, wideKeys, modest, calm, conditions, laid).
  DERIVED. THE GIVEN ROWS OF THIS SEAT. 12 by the template 'for every input the law returns true; each argument reads behind the call as it read before'; 0 by the template 'total and deterministic' (their statements: YtldjfonpegffiaaTotals.lean).
  GIVEN WITH THE SEED: the statements are not yours to turn. If you find one false, say at which input.
  Laid BY PROGRAM, IN A SANDBOX (cutbox-rows.mjs): the forced cells as the released guide's own fill.sh prints them over the translation 8ac3cb5c727bba8e… (all of the seat's roots in one cut). By AI agents, Wed Nov 11 2026. No macro, syntax, notation, axiom, sorry.
-/
import Derived.Test.YtldjfonpegffiaaChecked
import GoSem.Claim
import GoSem.ClaimJoined
import GoSem.ClaimMapViews
import Derived.JoinedTies
import Derived.KernelRfl
namespace Go.Proofs.Ytldjfonpegffiaa
/- THE CELL 'sum', in the pinned program and in every row, IS THE sha256 OF THE DUMP (.gsa) THAT YtldjfonpegffiaaProg.lean LOADS. Nothing in Lean hashes anything: it is a label: what it is worth is what the hold of that sum in a sandbox is worth. -/
noncomputable def Try.pinned : Pinned := { name := "ytldjfonpegffiaa", sum := "8ac3cb5c727bba8e03a3e3a1f2959c3455131eec137e4c56c70b2aa1b3bdeec7", checked := Try.checked }
namespace Rows
def none {H : Type} : Left H := { results := [], args := [] }

/-- 'laws.FnExactKeyAbove': WHATEVER THE INPUT: true; the input reads as it did. -/
def fnExactKeyAboveSpec : ChangeSpec := { name := "fnExactKeyAbove", fn := fun _ => fun
  | [d] => { results := [.lit (.bool true)], args := [d] }
  | _ => none }
def fnExactKeyAboveRow : OpenClaim := { program := "ytldjfonpegffiaa", sum := "8ac3cb5c727bba8e03a3e3a1f2959c3455131eec137e4c56c70b2aa1b3bdeec7", func := "loop.example/jetton/laws.FnExactKeyAbove", spec := "fnExactKeyAbove", apart := false }
def FnExactKeyAboveSaid : Prop := fnExactKeyAboveRow.holds Try.pinned (OpenSpec.ofChange fnExactKeyAboveSpec)

/-- ITS FALSE NEIGHBOUR: 'it returns false'. Refute it at one input. -/
def fnExactKeyAboveWrong : ChangeSpec := { name := "fnExactKeyAbove", fn := fun _ => fun
  | [d] => { results := [.lit (.bool false)], args := [d] }
  | _ => none }
def FnExactKeyAboveWrongFalsely : Prop := fnExactKeyAboveRow.holds Try.pinned (OpenSpec.ofChange fnExactKeyAboveWrong)

/-- 'laws.FnKeyAbove': WHATEVER THE INPUT: true; the input reads as it did. -/
def fnKeyAboveSpec : ChangeSpec := { name := "fnKeyAbove", fn := fun _ => fun
  | [d1, d2] => { results := [.lit (.bool true)], args := [d1, d2] }
  | _ => none }
def fnKeyAboveRow : OpenClaim := { program := "ytldjfonpegffiaa", sum := "8ac3cb5c727bba8e03a3e3a1f2959c3455131eec137e4c56c70b2aa1b3bdeec7", func := "loop.example/jetton/laws.FnKeyAbove", spec := "fnKeyAbove", apart := false }
def FnKeyAboveSaid : Prop := fnKeyAboveRow.holds Try.pinned (OpenSpec.ofChange fnKeyAboveSpec)

/-- ITS FALSE NEIGHBOUR: 'it returns false'. Refute it at one input. -/
def fnKeyAboveWrong : ChangeSpec := { name := "fnKeyAbove", fn := fun _ => fun
  | [d1, d2] => { results := [.lit (.bool false)], args := [d1, d2] }
  | _ => none }
def FnKeyAboveWrongFalsely : Prop := fnKeyAboveRow.holds Try.pinned (OpenSpec.ofChange fnKeyAboveWrong)

/-- 'laws.FnExactDiskNew': WHATEVER THE INPUT: true; the input reads as it did. -/
def fnExactDiskNewSpec : ChangeSpec := { name := "fnExactDiskNew", fn := fun _ => fun
  | [] => { results := [.lit (.bool true)], args := [] }
  | _ => none }
def fnExactDiskNewRow : OpenClaim := { program := "ytldjfonpegffiaa", sum := "8ac3cb5c727bba8e03a3e3a1f2959c3455131eec137e4c56c70b2aa1b3bdeec7", func := "loop.example/jetton/laws.FnExactDiskNew", spec := "fnExactDiskNew", apart := false }
def FnExactDiskNewSaid : Prop := fnExactDiskNewRow.holds Try.pinned (OpenSpec.ofChange fnExactDiskNewSpec)

/-- ITS FALSE NEIGHBOUR: 'it returns false'. Refute it at one input. -/
def fnExactDiskNewWrong : ChangeSpec := { name := "fnExactDiskNew", fn := fun _ => fun
  | [] => { results := [.lit (.bool false)], args := [] }
  | _ => none }
def FnExactDiskNewWrongFalsely : Prop := fnExactDiskNewRow.holds Try.pinned (OpenSpec.ofChange fnExactDiskNewWrong)

/-- 'laws.FnExactTreeNew': WHATEVER THE INPUT: true; the input reads as it did. -/
def fnExactTreeNewSpec : ChangeSpec := { name := "fnExactTreeNew", fn := fun _ => fun
  | [] => { results := [.lit (.bool true)], args := [] }
  | _ => none }
def fnExactTreeNewRow : OpenClaim := { program := "ytldjfonpegffiaa", sum := "8ac3cb5c727bba8e03a3e3a1f2959c3455131eec137e4c56c70b2aa1b3bdeec7", func := "loop.example/jetton/laws.FnExactTreeNew", spec := "fnExactTreeNew", apart := false }
def FnExactTreeNewSaid : Prop := fnExactTreeNewRow.holds Try.pinned (OpenSpec.ofChange fnExactTreeNewSpec)

/-- ITS FALSE NEIGHBOUR: 'it returns false'. Refute it at one input. -/
def fnExactTreeNewWrong : ChangeSpec := { name := "fnExactTreeNew", fn := fun _ => fun
  | [] => { results := [.lit (.bool false)], args := [] }
  | _ => none }
def FnExactTreeNewWrongFalsely : Prop := fnExactTreeNewRow.holds Try.pinned (OpenSpec.ofChange fnExactTreeNewWrong)

/-- 'laws.FnExactDiskOk': WHATEVER THE INPUT: true; the input reads as it did. -/
def fnExactDiskOkSpec : ChangeSpec := { name := "fnExactDiskOk", fn := fun _ => fun
  | [d] => { results := [.lit (.bool true)], args := [d] }
  | _ => none }
def fnExactDiskOkRow : OpenClaim := { program := "ytldjfonpegffiaa", sum := "8ac3cb5c727bba8e03a3e3a1f2959c3455131eec137e4c56c70b2aa1b3bdeec7", func := "loop.example/jetton/laws.FnExactDiskOk", spec := "fnExactDiskOk", unfollowed := true, recurses := true, apart := false }
def FnExactDiskOkSaid : Prop := fnExactDiskOkRow.holds Try.pinned (OpenSpec.ofChange fnExactDiskOkSpec)

/-- ITS FALSE NEIGHBOUR: 'it returns false'. Refute it at one input. -/
def fnExactDiskOkWrong : ChangeSpec := { name := "fnExactDiskOk", fn := fun _ => fun
  | [d] => { results := [.lit (.bool false)], args := [d] }
  | _ => none }
def FnExactDiskOkWrongFalsely : Prop := fnExactDiskOkRow.holds Try.pinned (OpenSpec.ofChange fnExactDiskOkWrong)

/-- 'laws.FnExactDiskRead': WHATEVER THE INPUT: true; the input reads as it did. -/
def fnExactDiskReadSpec : ChangeSpec := { name := "fnExactDiskRead", fn := fun _ => fun
  | [d1, d2] => { results := [.lit (.bool true)], args := [d1, d2] }
  | _ => none }
def fnExactDiskReadRow : OpenClaim := { program := "ytldjfonpegffiaa", sum := "8ac3cb5c727bba8e03a3e3a1f2959c3455131eec137e4c56c70b2aa1b3bdeec7", func := "loop.example/jetton/laws.FnExactDiskRead", spec := "fnExactDiskRead", unfollowed := true, recurses := true, apart := false }
def FnExactDiskReadSaid : Prop := fnExactDiskReadRow.holds Try.pinned (OpenSpec.ofChange fnExactDiskReadSpec)

/-- ITS FALSE NEIGHBOUR: 'it returns false'. Refute it at one input. -/
def fnExactDiskReadWrong : ChangeSpec := { name := "fnExactDiskRead", fn := fun _ => fun
  | [d1, d2] => { results := [.lit (.bool false)], args := [d1, d2] }
  | _ => none }
def FnExactDiskReadWrongFalsely : Prop := fnExactDiskReadRow.holds Try.pinned (OpenSpec.ofChange fnExactDiskReadWrong)

/-- 'laws.FnDiskCrash': WHATEVER THE INPUT: true; the input reads as it did. -/
def fnDiskCrashSpec : ChangeSpec := { name := "fnDiskCrash", fn := fun _ => fun
  | [d] => { results := [.lit (.bool true)], args := [d] }
  | _ => none }
def fnDiskCrashRow : OpenClaim := { program := "ytldjfonpegffiaa", sum := "8ac3cb5c727bba8e03a3e3a1f2959c3455131eec137e4c56c70b2aa1b3bdeec7", func := "loop.example/jetton/laws.FnDiskCrash", spec := "fnDiskCrash", unfollowed := true, recurses := true, apart := false }
def FnDiskCrashSaid : Prop := fnDiskCrashRow.holds Try.pinned (OpenSpec.ofChange fnDiskCrashSpec)

/-- ITS FALSE NEIGHBOUR: 'it returns false'. Refute it at one input. -/
def fnDiskCrashWrong : ChangeSpec := { name := "fnDiskCrash", fn := fun _ => fun
  | [d] => { results := [.lit (.bool false)], args := [d] }
  | _ => none }
def FnDiskCrashWrongFalsely : Prop := fnDiskCrashRow.holds Try.pinned (OpenSpec.ofChange fnDiskCrashWrong)

/-- 'laws.FnExactDiskCrash': WHATEVER THE INPUT: true; the input reads as it did. -/
def fnExactDiskCrashSpec : ChangeSpec := { name := "fnExactDiskCrash", fn := fun _ => fun
  | [d1, d2, d3, d4] => { results := [.lit (.bool true)], args := [d1, d2, d3, d4] }
  | _ => none }
def fnExactDiskCrashRow : OpenClaim := { program := "ytldjfonpegffiaa", sum := "8ac3cb5c727bba8e03a3e3a1f2959c3455131eec137e4c56c70b2aa1b3bdeec7", func := "loop.example/jetton/laws.FnExactDiskCrash", spec := "fnExactDiskCrash", unfollowed := true, recurses := true, apart := false }
def FnExactDiskCrashSaid : Prop := fnExactDiskCrashRow.holds Try.pinned (OpenSpec.ofChange fnExactDiskCrashSpec)

/-- ITS FALSE NEIGHBOUR: 'it returns false'. Refute it at one input. -/
def fnExactDiskCrashWrong : ChangeSpec := { name := "fnExactDiskCrash", fn := fun _ => fun
  | [d1, d2, d3, d4] => { results := [.lit (.bool false)], args := [d1, d2, d3, d4] }
  | _ => none }
def FnExactDiskCrashWrongFalsely : Prop := fnExactDiskCrashRow.holds Try.pinned (OpenSpec.ofChange fnExactDiskCrashWrong)

/-- 'laws.FnExactTreeOk': WHATEVER THE INPUT: true; the input reads as it did. -/
def fnExactTreeOkSpec : ChangeSpec := { name := "fnExactTreeOk", fn := fun _ => fun
  | [d] => { results := [.lit (.bool true)], args := [d] }
  | _ => none }
def fnExactTreeOkRow : OpenClaim := { program := "ytldjfonpegffiaa", sum := "8ac3cb5c727bba8e03a3e3a1f2959c3455131eec137e4c56c70b2aa1b3bdeec7", func := "loop.example/jetton/laws.FnExactTreeOk", spec := "fnExactTreeOk", unfollowed := true, recurses := true, apart := false }
def FnExactTreeOkSaid : Prop := fnExactTreeOkRow.holds Try.pinned (OpenSpec.ofChange fnExactTreeOkSpec)

/-- ITS FALSE NEIGHBOUR: 'it returns false'. Refute it at one input. -/
def fnExactTreeOkWrong : ChangeSpec := { name := "fnExactTreeOk", fn := fun _ => fun
  | [d] => { results := [.lit (.bool false)], args := [d] }
  | _ => none }
def FnExactTreeOkWrongFalsely : Prop := fnExactTreeOkRow.holds Try.pinned (OpenSpec.ofChange fnExactTreeOkWrong)

/-- 'laws.FnExactTreeDeep': WHATEVER THE INPUT: true; the input reads as it did. -/
def fnExactTreeDeepSpec : ChangeSpec := { name := "fnExactTreeDeep", fn := fun _ => fun
  | [d] => { results := [.lit (.bool true)], args := [d] }
  | _ => none }
def fnExactTreeDeepRow : OpenClaim := { program := "ytldjfonpegffiaa", sum := "8ac3cb5c727bba8e03a3e3a1f2959c3455131eec137e4c56c70b2aa1b3bdeec7", func := "loop.example/jetton/laws.FnExactTreeDeep", spec := "fnExactTreeDeep", unfollowed := true, recurses := true, apart := false }
def FnExactTreeDeepSaid : Prop := fnExactTreeDeepRow.holds Try.pinned (OpenSpec.ofChange fnExactTreeDeepSpec)

/-- ITS FALSE NEIGHBOUR: 'it returns false'. Refute it at one input. -/
def fnExactTreeDeepWrong : ChangeSpec := { name := "fnExactTreeDeep", fn := fun _ => fun
  | [d] => { results := [.lit (.bool false)], args := [d] }
  | _ => none }
def FnExactTreeDeepWrongFalsely : Prop := fnExactTreeDeepRow.holds Try.pinned (OpenSpec.ofChange fnExactTreeDeepWrong)

/-- 'laws.FnExactBaseNew': WHATEVER THE INPUT: true; the input reads as it did. -/
def fnExactBaseNewSpec : ChangeSpec := { name := "fnExactBaseNew", fn := fun _ => fun
  | [] => { results := [.lit (.bool true)], args := [] }
  | _ => none }
def fnExactBaseNewRow : OpenClaim := { program := "ytldjfonpegffiaa", sum := "8ac3cb5c727bba8e03a3e3a1f2959c3455131eec137e4c56c70b2aa1b3bdeec7", func := "loop.example/jetton/laws.FnExactBaseNew", spec := "fnExactBaseNew", apart := false }
def FnExactBaseNewSaid : Prop := fnExactBaseNewRow.holds Try.pinned (OpenSpec.ofChange fnExactBaseNewSpec)

/-- ITS FALSE NEIGHBOUR: 'it returns false'. Refute it at one input. -/
def fnExactBaseNewWrong : ChangeSpec := { name := "fnExactBaseNew", fn := fun _ => fun
  | [] => { results := [.lit (.bool false)], args := [] }
  | _ => none }
def FnExactBaseNewWrongFalsely : Prop := fnExactBaseNewRow.holds Try.pinned (OpenSpec.ofChange fnExactBaseNewWrong)

/-- 'laws.FnExactTreeGet': WHATEVER THE INPUT: true; the input reads as it did. -/
def fnExactTreeGetSpec : ChangeSpec := { name := "fnExactTreeGet", fn := fun _ => fun
  | [d1, d2] => { results := [.lit (.bool true)], args := [d1, d2] }
  | _ => none }
def fnExactTreeGetRow : OpenClaim := { program := "ytldjfonpegffiaa", sum := "8ac3cb5c727bba8e03a3e3a1f2959c3455131eec137e4c56c70b2aa1b3bdeec7", func := "loop.example/jetton/laws.FnExactTreeGet", spec := "fnExactTreeGet", unfollowed := true, recurses := true, apart := false }
def FnExactTreeGetSaid : Prop := fnExactTreeGetRow.holds Try.pinned (OpenSpec.ofChange fnExactTreeGetSpec)

/-- ITS FALSE NEIGHBOUR: 'it returns false'. Refute it at one input. -/
def fnExactTreeGetWrong : ChangeSpec := { name := "fnExactTreeGet", fn := fun _ => fun
  | [d1, d2] => { results := [.lit (.bool false)], args := [d1, d2] }
  | _ => none }
def FnExactTreeGetWrongFalsely : Prop := fnExactTreeGetRow.holds Try.pinned (OpenSpec.ofChange fnExactTreeGetWrong)

/- THE SECOND FORM. 'bulk': how many values and letters a reading holds, each counted each time it is reached (what is shared counts as often as it is met; a slice's spare places count too). A statement '..UptoSaid' is the law's where the arguments, and the package variables that the reading takes, are together of bulk at most 1048576: NARROWER than '..Said'. Prove '..Said' where nothing that the law and all that it calls make is longer than what came in: it says more and counts as full. Else prove '..UptoSaid'. A law counts once. -/
mutual
def uptoBulk {H : Type} : DataW H → Nat
  | .lit (.string bytes) => bytes.length + 1
  | .lit _ => 1
  | .nil => 1
  | .ptr d => uptoBulk d + 1
  | .slice elems spare => uptoBulkAll elems + uptoBulkAll spare + 1
  | .agg parts => uptoBulkAll parts + 1
  | .iface _ d => uptoBulk d + 1
  | .map entries => uptoBulkEntries entries + 1
  | .held _ => 1
def uptoBulkAll {H : Type} : List (DataW H) → Nat
  | [] => 0
  | d :: r => uptoBulk d + uptoBulkAll r
def uptoBulkEntries {H : Type} : List (Lit × DataW H) → Nat
  | [] => 0
  | x :: r => uptoBulkEntry x + uptoBulkEntries r
def uptoBulkEntry {H : Type} : Lit × DataW H → Nat
  | (.string bytes, d) => bytes.length + uptoBulk d + 1
  | (_, d) => uptoBulk d + 1
 end
def uptoSmall : (H : Type) → List (DataW H) → Bool := fun _ ds => decide (uptoBulkAll ds ≤ 1048576)
def OpenSpec.upto (s : _root_.Go.ChangeSpec) : _root_.Go.OpenSpec := { _root_.Go.OpenSpec.ofChange s with cond := some uptoSmall }

/-- 'laws.FnExactKeyAbove', WHERE WHAT IT READS IS OF BULK AT MOST 1048576: true; the input reads as it did. -/
def fnExactKeyAboveUptoRow : OpenClaim := { program := "ytldjfonpegffiaa", sum := "8ac3cb5c727bba8e03a3e3a1f2959c3455131eec137e4c56c70b2aa1b3bdeec7", func := "loop.example/jetton/laws.FnExactKeyAbove", spec := "fnExactKeyAbove", apart := false, narrowed := true }
def FnExactKeyAboveUptoSaid : Prop := fnExactKeyAboveUptoRow.holds Try.pinned (OpenSpec.upto fnExactKeyAboveSpec)

/-- 'laws.FnKeyAbove', WHERE WHAT IT READS IS OF BULK AT MOST 1048576: true; the input reads as it did. -/
def fnKeyAboveUptoRow : OpenClaim := { program := "ytldjfonpegffiaa", sum := "8ac3cb5c727bba8e03a3e3a1f2959c3455131eec137e4c56c70b2aa1b3bdeec7", func := "loop.example/jetton/laws.FnKeyAbove", spec := "fnKeyAbove", apart := false, narrowed := true }
def FnKeyAboveUptoSaid : Prop := fnKeyAboveUptoRow.holds Try.pinned (OpenSpec.upto fnKeyAboveSpec)

/-- 'laws.FnExactDiskNew', WHERE WHAT IT READS IS OF BULK AT MOST 1048576: true; the input reads as it did. -/
def fnExactDiskNewUptoRow : OpenClaim := { program := "ytldjfonpegffiaa", sum := "8ac3cb5c727bba8e03a3e3a1f2959c3455131eec137e4c56c70b2aa1b3bdeec7", func := "loop.example/jetton/laws.FnExactDiskNew", spec := "fnExactDiskNew", apart := false, narrowed := true }
def FnExactDiskNewUptoSaid : Prop := fnExactDiskNewUptoRow.holds Try.pinned (OpenSpec.upto fnExactDiskNewSpec)

/-- 'laws.FnExactTreeNew', WHERE WHAT IT READS IS OF BULK AT MOST 1048576: true; the input reads as it did. -/
def fnExactTreeNewUptoRow : OpenClaim := { program := "ytldjfonpegffiaa", sum := "8ac3cb5c727bba8e03a3e3a1f2959c3455131eec137e4c56c70b2aa1b3bdeec7", func := "loop.example/jetton/laws.FnExactTreeNew", spec := "fnExactTreeNew", apart := false, narrowed := true }
def FnExactTreeNewUptoSaid : Prop := fnExactTreeNewUptoRow.holds Try.pinned (OpenSpec.upto fnExactTreeNewSpec)

/-- 'laws.FnExactDiskOk', WHERE WHAT IT READS IS OF BULK AT MOST 1048576: true; the input reads as it did. -/
def fnExactDiskOkUptoRow : OpenClaim := { program := "ytldjfonpegffiaa", sum := "8ac3cb5c727bba8e03a3e3a1f2959c3455131eec137e4c56c70b2aa1b3bdeec7", func := "loop.example/jetton/laws.FnExactDiskOk", spec := "fnExactDiskOk", unfollowed := true, recurses := true, apart := false, narrowed := true }
def FnExactDiskOkUptoSaid : Prop := fnExactDiskOkUptoRow.holds Try.pinned (OpenSpec.upto fnExactDiskOkSpec)

/-- 'laws.FnExactDiskRead', WHERE WHAT IT READS IS OF BULK AT MOST 1048576: true; the input reads as it did. -/
def fnExactDiskReadUptoRow : OpenClaim := { program := "ytldjfonpegffiaa", sum := "8ac3cb5c727bba8e03a3e3a1f2959c3455131eec137e4c56c70b2aa1b3bdeec7", func := "loop.example/jetton/laws.FnExactDiskRead", spec := "fnExactDiskRead", unfollowed := true, recurses := true, apart := false, narrowed := true }
def FnExactDiskReadUptoSaid : Prop := fnExactDiskReadUptoRow.holds Try.pinned (OpenSpec.upto fnExactDiskReadSpec)

/-- 'laws.FnDiskCrash', WHERE WHAT IT READS IS OF BULK AT MOST 1048576: true; the input reads as it did. -/
def fnDiskCrashUptoRow : OpenClaim := { program := "ytldjfonpegffiaa", sum := "8ac3cb5c727bba8e03a3e3a1f2959c3455131eec137e4c56c70b2aa1b3bdeec7", func := "loop.example/jetton/laws.FnDiskCrash", spec := "fnDiskCrash", unfollowed := true, recurses := true, apart := false, narrowed := true }
def FnDiskCrashUptoSaid : Prop := fnDiskCrashUptoRow.holds Try.pinned (OpenSpec.upto fnDiskCrashSpec)

/-- 'laws.FnExactDiskCrash', WHERE WHAT IT READS IS OF BULK AT MOST 1048576: true; the input reads as it did. -/
def fnExactDiskCrashUptoRow : OpenClaim := { program := "ytldjfonpegffiaa", sum := "8ac3cb5c727bba8e03a3e3a1f2959c3455131eec137e4c56c70b2aa1b3bdeec7", func := "loop.example/jetton/laws.FnExactDiskCrash", spec := "fnExactDiskCrash", unfollowed := true, recurses := true, apart := false, narrowed := true }
def FnExactDiskCrashUptoSaid : Prop := fnExactDiskCrashUptoRow.holds Try.pinned (OpenSpec.upto fnExactDiskCrashSpec)

/-- 'laws.FnExactTreeOk', WHERE WHAT IT READS IS OF BULK AT MOST 1048576: true; the input reads as it did. -/
def fnExactTreeOkUptoRow : OpenClaim := { program := "ytldjfonpegffiaa", sum := "8ac3cb5c727bba8e03a3e3a1f2959c3455131eec137e4c56c70b2aa1b3bdeec7", func := "loop.example/jetton/laws.FnExactTreeOk", spec := "fnExactTreeOk", unfollowed := true, recurses := true, apart := false, narrowed := true }
def FnExactTreeOkUptoSaid : Prop := fnExactTreeOkUptoRow.holds Try.pinned (OpenSpec.upto fnExactTreeOkSpec)

/-- 'laws.FnExactTreeDeep', WHERE WHAT IT READS IS OF BULK AT MOST 1048576: true; the input reads as it did. -/
def fnExactTreeDeepUptoRow : OpenClaim := { program := "ytldjfonpegffiaa", sum := "8ac3cb5c727bba8e03a3e3a1f2959c3455131eec137e4c56c70b2aa1b3bdeec7", func := "loop.example/jetton/laws.FnExactTreeDeep", spec := "fnExactTreeDeep", unfollowed := true, recurses := true, apart := false, narrowed := true }
def FnExactTreeDeepUptoSaid : Prop := fnExactTreeDeepUptoRow.holds Try.pinned (OpenSpec.upto fnExactTreeDeepSpec)

/-- 'laws.FnExactBaseNew', WHERE WHAT IT READS IS OF BULK AT MOST 1048576: true; the input reads as it did. -/
def fnExactBaseNewUptoRow : OpenClaim := { program := "ytldjfonpegffiaa", sum := "8ac3cb5c727bba8e03a3e3a1f2959c3455131eec137e4c56c70b2aa1b3bdeec7", func := "loop.example/jetton/laws.FnExactBaseNew", spec := "fnExactBaseNew", apart := false, narrowed := true }
def FnExactBaseNewUptoSaid : Prop := fnExactBaseNewUptoRow.holds Try.pinned (OpenSpec.upto fnExactBaseNewSpec)

/-- 'laws.FnExactTreeGet', WHERE WHAT IT READS IS OF BULK AT MOST 1048576: true; the input reads as it did. -/
def fnExactTreeGetUptoRow : OpenClaim := { program := "ytldjfonpegffiaa", sum := "8ac3cb5c727bba8e03a3e3a1f2959c3455131eec137e4c56c70b2aa1b3bdeec7", func := "loop.example/jetton/laws.FnExactTreeGet", spec := "fnExactTreeGet", unfollowed := true, recurses := true, apart := false, narrowed := true }
def FnExactTreeGetUptoSaid : Prop := fnExactTreeGetUptoRow.holds Try.pinned (OpenSpec.upto fnExactTreeGetSpec)

end Rows
end Go.Proofs.Ytldjfonpegffiaa
