/- A part of the proof that the law FnDiskCrash answers true for every input: contracts of functions that it reaches, or its plain law. -/
import Derived.Lib.LaidTab
import Derived.Shelf.Strconv.Itoa3
import Derived.Test.YtldjfonpegffiaaProg
import Derived.KernelRfl
import Derived.Below
import Derived.Deep.Draws
import Derived.Deep.AppendLies
import Derived.Maps.AppendAt
import Derived.OwnWalk
import Derived.Laws.BytesArg
import Derived.Laws.MakeOwn
import Derived.Laws.OwnMore
import Derived.Deep.OwnRows
import Derived.Tactics
import Derived.Lib.ConvBytes
import Derived.Laws.Slices
import Derived.WalkKit
import Derived.RowKit3
import Derived.Deep.LoopGhost
import Derived.Deep.QuietTactic
import Derived.BigQuiet
import Derived.WideLaws
import Derived.Deep.DeepCutAuto
import Derived.Deep.CutBlock
import Derived.Deep.RegionHeld3
import Derived.Laws.Rows
import Derived.Lib.AppendStr
import Derived.ArgAppend
import Derived.Laws.IdiomCopy
import Derived.RowKit
import Derived.OrdersHeld
import Derived.Laws.BitsLemmas
import Derived.RangeFuncNested
import Derived.RangeFuncBound
import Derived.RangeFuncCalls
import Derived.RangeFuncLeaves
import Derived.Shelf.Abstract
import Derived.Shelf.RegionOpen
import Derived.OwnWalkIn
import Derived.TacticsInMore
import Derived.LoopNIn
import Derived.LoopIn
import Derived.Deep.Slices
import Derived.ChangeArms
import Derived.WideShapes
import Derived.Test.YtldjfonpegffiaaRows
import Derived.ProofKit
import Derived.OpenShut
import Derived.ShutString
import Derived.ChangeOld
import Derived.SizedLaws
import Derived.Carry
import Derived.Test.YtldjfonpegffiaaCFnDiskCrashx0
import Derived.Test.YtldjfonpegffiaaCFnDiskCrashx1
import Derived.Test.YtldjfonpegffiaaCFnDiskCrashx2
namespace Go.Proofs.Ytldjfonpegffiaa.Q
end Go.Proofs.Ytldjfonpegffiaa.Q
namespace Go.Proofs.Ytldjfonpegffiaa.R
end Go.Proofs.Ytldjfonpegffiaa.R
namespace Go.Proofs.YtldjfonpegffiaaW.PrintLast
end Go.Proofs.YtldjfonpegffiaaW.PrintLast
namespace Go.Proofs.YtldjfonpegffiaaW.PrintMore
end Go.Proofs.YtldjfonpegffiaaW.PrintMore
namespace Go.Proofs.YtldjfonpegffiaaW.PrintWords
end Go.Proofs.YtldjfonpegffiaaW.PrintWords
namespace Go.Proofs.YtldjfonpegffiaaW.PrintWords.Kd
end Go.Proofs.YtldjfonpegffiaaW.PrintWords.Kd
section
/-! Rf: the seat's tables. -/
set_option autoImplicit false
namespace Go.Proofs.Ytldjfonpegffiaa.R
open Go.Rf
noncomputable def tabs : Tabs where
  ty := [(3, ⟨false, [.int .i64], [], 8⟩),
    (4, ⟨false, [.bool], [], 1⟩),
    (5, ⟨false, [.int .u8], [], 1⟩),
    (9, ⟨false, [.str], [], 16⟩),
    (24, ⟨false, [.sl (.int .u8)], [], 24⟩),
    (27, ⟨false, [.sl .str], [], 24⟩),
    (28, ⟨false, [.sl (.pair (.int .i64) (.pair .str .unit))], [], 24⟩),
    (30, ⟨true, [.sl .str, .sl (.pair (.int .i64) (.pair .str .unit)), .int .i64, .int .i64], [(0, 1, false), (1, 1, false), (2, 1, false), (3, 1, false)], 64⟩),
    (54, ⟨true, [.int .i64, .str], [(0, 1, false), (1, 1, false)], 24⟩),
    (81, ⟨false, [.sl (.int .i64)], [], 24⟩),
    (111, ⟨true, [.sl (.int .u8), .int .i64], [(0, 1, false), (1, 1, false)], 32⟩)]
  el := [(24, 5), (27, 9), (28, 54), (81, 3)]
  ifcs := []
  known := [9, 18, 29, 31, 33, 34, 35, 36, 37, 51, 52, 65, 68, 69, 70, 71, 72, 73, 76, 77, 78, 79, 80, 81, 82, 83, 84, 85, 86, 102, 104, 105, 106, 108, 109, 110, 111, 128, 129, 130, 144]
  spec := [(9, ⟨[.c (.v (.sl (.int .u8)))], [.c (.v .bool)]⟩),
    (18, ⟨[], [.agg [.o .str 9 true, .o (.pair (.int .i64) (.pair .str .unit)) 54 true, .v (.int .i64), .v (.int .i64)]]⟩),
    (29, ⟨[.agg [.v (.sl .str), .v (.sl (.pair (.int .i64) (.pair .str .unit))), .v (.int .i64), .v (.int .i64)]], [.c (.v .bool)]⟩),
    (31, ⟨[.agg [.v (.sl .str), .v (.sl (.pair (.int .i64) (.pair .str .unit))), .v (.int .i64), .v (.int .i64)]], [.c (.v .bool)]⟩),
    (33, ⟨[.agg [.v (.sl .str), .v (.sl (.pair (.int .i64) (.pair .str .unit))), .v (.int .i64), .v (.int .i64)], .c (.v (.int .i64))], [.c (.v .str)]⟩),
    (34, ⟨[.c (.v (.sl (.int .u8)))], [.agg [.v (.sl .str), .v (.sl (.pair (.int .i64) (.pair .str .unit))), .v (.int .i64), .v (.int .i64)], .c (.v (.int .i64)), .c (.v (.int .i64)), .c (.v (.int .i64))]⟩),
    (35, ⟨[.agg [.v (.sl .str), .v (.sl (.pair (.int .i64) (.pair .str .unit))), .v (.int .i64), .v (.int .i64)], .c (.v (.int .i64)), .c (.v (.int .i64)), .c (.v (.int .i64))], [.agg [.v (.sl .str), .v (.sl (.pair (.int .i64) (.pair .str .unit))), .v (.int .i64), .v (.int .i64)]]⟩),
    (36, ⟨[.agg [.v (.sl .str), .v (.sl (.pair (.int .i64) (.pair .str .unit))), .v (.int .i64), .v (.int .i64)], .agg [.v (.sl .str), .v (.sl (.pair (.int .i64) (.pair .str .unit))), .v (.int .i64), .v (.int .i64)]], [.c (.v .bool)]⟩),
    (37, ⟨[.agg [.v (.sl .str), .v (.sl (.pair (.int .i64) (.pair .str .unit))), .v (.int .i64), .v (.int .i64)], .c (.v (.int .i64)), .c (.v (.int .i64)), .c (.v (.int .i64))], [.agg [.v (.sl .str), .v (.sl (.pair (.int .i64) (.pair .str .unit))), .v (.int .i64), .v (.int .i64)]]⟩),
    (51, ⟨[.c (.v (.sl (.int .u8)))], [.box [.v (.sl (.int .u8)), .v (.int .i64)]]⟩),
    (52, ⟨[.box [.v (.sl (.int .u8)), .v (.int .i64)], .c (.o .str 9 false)], [.c (.v .str)]⟩),
    (65, ⟨[.agg [.v (.sl .str), .v (.sl (.pair (.int .i64) (.pair .str .unit))), .v (.int .i64), .v (.int .i64)]], [.c (.v .bool)]⟩),
    (69, ⟨[.c (.v .str)], [.c (.v .bool)]⟩),
    (71, ⟨[.agg [.v (.int .i64), .v .str]], [.c (.v .bool)]⟩),
    (72, ⟨[.c (.v (.int .i64))], [.c (.v .bool)]⟩),
    (73, ⟨[.c (.v (.int .i64)), .c (.v (.int .i64)), .c (.v (.int .i64))], [.c (.v .bool)]⟩),
    (76, ⟨[.box [.v (.sl (.int .u8)), .v (.int .i64)]], [.agg [.v (.sl .str), .v (.sl (.pair (.int .i64) (.pair .str .unit))), .v (.int .i64), .v (.int .i64)]]⟩),
    (77, ⟨[.box [.v (.sl (.int .u8)), .v (.int .i64)], .c (.o (.int .i64) 3 false)], [.c (.v (.int .i64))]⟩),
    (78, ⟨[.box [.v (.sl (.int .u8)), .v (.int .i64)]], [.c (.v (.int .i64))]⟩),
    (79, ⟨[.box [.v (.sl (.int .u8)), .v (.int .i64)], .c (.v (.int .i64))], [.c (.v (.int .i64))]⟩),
    (80, ⟨[.c (.v (.sl .str))], [.c (.o .str 9 true)]⟩),
    (81, ⟨[.c (.v .str), .c (.v .str), .c (.v (.int .i64))], [.c (.v .str)]⟩),
    (82, ⟨[.c (.v (.sl .str)), .c (.v (.sl .str))], [.c (.v .bool)]⟩),
    (83, ⟨[.c (.v (.sl (.pair (.int .i64) (.pair .str .unit)))), .c (.v (.sl (.pair (.int .i64) (.pair .str .unit))))], [.c (.v .bool)]⟩),
    (84, ⟨[.agg [.v (.sl .str), .v (.sl (.pair (.int .i64) (.pair .str .unit))), .v (.int .i64), .v (.int .i64)]], [.agg [.o .str 9 true, .o (.pair (.int .i64) (.pair .str .unit)) 54 true, .v (.int .i64), .v (.int .i64)]]⟩),
    (85, ⟨[.c (.v (.int .i64)), .c (.v (.int .i64))], [.c (.v .bool)]⟩),
    (86, ⟨[.c (.v .str), .c (.v .str), .c (.v (.int .i64))], [.c (.v .str)]⟩),
    (102, ⟨[.agg [.v (.int .i64), .v .str]], [.c (.v .bool)]⟩),
    (106, ⟨[.c (.v (.int .i64)), .c (.v (.int .i64)), .c (.v (.int .i64))], [.c (.v .bool)]⟩),
    (108, ⟨[.box [.v (.sl (.int .u8)), .v (.int .i64)]], [.agg [.o .str 9 true, .o (.pair (.int .i64) (.pair .str .unit)) 54 true, .v (.int .i64), .v (.int .i64)]]⟩),
    (109, ⟨[.c (.v .str), .c (.v (.int .i64))], [.c (.v .str)]⟩),
    (110, ⟨[.c (.o .str 9 false)], [.c (.o .str 9 true)]⟩),
    (111, ⟨[.c (.v (.sl .str))], [.c (.o .str 9 true)]⟩),
    (128, ⟨[.agg [.v (.sl .str), .v (.sl (.pair (.int .i64) (.pair .str .unit))), .v (.int .i64), .v (.int .i64)], .c (.v (.int .i64)), .c (.v .str)], [.agg [.o .str 9 true, .o (.pair (.int .i64) (.pair .str .unit)) 54 true, .v (.int .i64), .v (.int .i64)], .c (.v .bool)]⟩),
    (129, ⟨[.box [.v (.sl (.int .u8)), .v (.int .i64)]], [.c (.v .str)]⟩),
    (130, ⟨[.agg [.v (.sl .str), .v (.sl (.pair (.int .i64) (.pair .str .unit))), .v (.int .i64), .v (.int .i64)]], [.agg [.o .str 9 true, .o (.pair (.int .i64) (.pair .str .unit)) 54 true, .v (.int .i64), .v (.int .i64)]]⟩),
    (144, ⟨[.c (.v (.int .i64))], [.c (.v (.int .i64))]⟩),
    (70068, ⟨[.c (.v (.sl .str)), .clo 69 []], [.c (.v .bool)]⟩),
    (70104, ⟨[.c (.v (.sl .str)), .clo 69 []], [.c (.v (.int .i64))]⟩),
    (72070, ⟨[.c (.v (.sl (.pair (.int .i64) (.pair .str .unit)))), .clo 71 []], [.c (.v .bool)]⟩),
    (72105, ⟨[.c (.v (.sl (.pair (.int .i64) (.pair .str .unit)))), .clo 71 []], [.c (.v (.int .i64))]⟩)]
  cut := [(9, [(10, [(3, .box [.v (.sl .str), .v (.sl (.pair (.int .i64) (.pair .str .unit))), .v (.int .i64), .v (.int .i64)]), (5, .c (.v (.int .i64))), (7, .box [.v (.sl .str), .v (.sl (.pair (.int .i64) (.pair .str .unit))), .v (.int .i64), .v (.int .i64)]), (8, .box [.v (.sl .str), .v (.sl (.pair (.int .i64) (.pair .str .unit))), .v (.int .i64), .v (.int .i64)]), (9, .box [.v (.sl .str), .v (.sl (.pair (.int .i64) (.pair .str .unit))), .v (.int .i64), .v (.int .i64)]), (10, .c (.v (.int .i64)))]), (16, [(3, .box [.v (.sl .str), .v (.sl (.pair (.int .i64) (.pair .str .unit))), .v (.int .i64), .v (.int .i64)]), (5, .c (.v (.int .i64))), (7, .box [.v (.sl .str), .v (.sl (.pair (.int .i64) (.pair .str .unit))), .v (.int .i64), .v (.int .i64)]), (8, .box [.v (.sl .str), .v (.sl (.pair (.int .i64) (.pair .str .unit))), .v (.int .i64), .v (.int .i64)]), (9, .box [.v (.sl .str), .v (.sl (.pair (.int .i64) (.pair .str .unit))), .v (.int .i64), .v (.int .i64)]), (10, .c (.v (.int .i64))), (11, .c (.v .bool)), (12, .c (.v (.int .i64))), (73, .c (.v (.sl .str))), (74, .c (.v (.int .i64))), (76, .c (.v .str)), (77, .agg [.v (.sl .str), .v (.sl (.pair (.int .i64) (.pair .str .unit))), .v (.int .i64), .v (.int .i64)]), (78, .c (.v (.int .i64))), (79, .c (.v .str)), (80, .c (.v .bool))]), (17, [(3, .box [.v (.sl .str), .v (.sl (.pair (.int .i64) (.pair .str .unit))), .v (.int .i64), .v (.int .i64)]), (5, .c (.v (.int .i64))), (7, .box [.v (.sl .str), .v (.sl (.pair (.int .i64) (.pair .str .unit))), .v (.int .i64), .v (.int .i64)]), (8, .box [.v (.sl .str), .v (.sl (.pair (.int .i64) (.pair .str .unit))), .v (.int .i64), .v (.int .i64)]), (9, .box [.v (.sl .str), .v (.sl (.pair (.int .i64) (.pair .str .unit))), .v (.int .i64), .v (.int .i64)]), (10, .c (.v (.int .i64))), (11, .c (.v .bool)), (12, .c (.v (.int .i64))), (73, .c (.v (.sl .str))), (74, .c (.v (.int .i64))), (76, .c (.v .str)), (77, .agg [.v (.sl .str), .v (.sl (.pair (.int .i64) (.pair .str .unit))), .v (.int .i64), .v (.int .i64)]), (78, .c (.v (.int .i64))), (79, .c (.v .str)), (80, .c (.v .bool))])]),
    (35, [(5, [(1, .c (.v (.int .i64))), (2, .c (.v (.int .i64))), (3, .c (.v (.int .i64))), (8, .box [.v (.sl .str), .v (.sl (.pair (.int .i64) (.pair .str .unit))), .v (.int .i64), .v (.int .i64)]), (9, .box [.o .str 9 true, .v (.sl (.pair (.int .i64) (.pair .str .unit))), .v (.int .i64), .v (.int .i64)]), (25, .c (.v (.sl (.pair (.int .i64) (.pair .str .unit))))), (26, .c (.v (.int .i64))), (27, .c (.v (.int .i64)))]), (11, [(1, .c (.v (.int .i64))), (2, .c (.v (.int .i64))), (3, .c (.v (.int .i64))), (8, .box [.v (.sl .str), .v (.sl (.pair (.int .i64) (.pair .str .unit))), .v (.int .i64), .v (.int .i64)]), (9, .box [.o .str 9 true, .v (.sl (.pair (.int .i64) (.pair .str .unit))), .v (.int .i64), .v (.int .i64)]), (25, .c (.v (.sl (.pair (.int .i64) (.pair .str .unit))))), (26, .c (.v (.int .i64))), (27, .c (.v (.int .i64)))])]),
    (37, [(5, [(1, .c (.v (.int .i64))), (2, .c (.v (.int .i64))), (3, .c (.v (.int .i64))), (4, .box [.v (.sl .str), .v (.sl (.pair (.int .i64) (.pair .str .unit))), .v (.int .i64), .v (.int .i64)]), (8, .box [.v (.sl .str), .v (.sl (.pair (.int .i64) (.pair .str .unit))), .v (.int .i64), .v (.int .i64)]), (9, .box [.o .str 9 true, .v (.sl (.pair (.int .i64) (.pair .str .unit))), .v (.int .i64), .v (.int .i64)]), (10, .c (.v (.int .i64)))]), (6, [(1, .c (.v (.int .i64))), (2, .c (.v (.int .i64))), (3, .c (.v (.int .i64))), (4, .box [.v (.sl .str), .v (.sl (.pair (.int .i64) (.pair .str .unit))), .v (.int .i64), .v (.int .i64)]), (8, .box [.v (.sl .str), .v (.sl (.pair (.int .i64) (.pair .str .unit))), .v (.int .i64), .v (.int .i64)]), (9, .box [.o .str 9 true, .v (.sl (.pair (.int .i64) (.pair .str .unit))), .v (.int .i64), .v (.int .i64)]), (10, .c (.v (.int .i64)))])]),
    (51, [(3, [(0, .c (.v (.sl (.int .u8))))])]),
    (65, [(4, [(1, .box [.v (.sl .str), .v (.sl (.pair (.int .i64) (.pair .str .unit))), .v (.int .i64), .v (.int .i64)]), (3, .c (.v (.int .i64)))]), (9, [(1, .box [.v (.sl .str), .v (.sl (.pair (.int .i64) (.pair .str .unit))), .v (.int .i64), .v (.int .i64)]), (4, .c (.v (.int .i64)))])]),
    (76, [(14, [(0, .box [.v (.sl (.int .u8)), .v (.int .i64)]), (2, .box [.v (.sl .str), .v (.sl (.pair (.int .i64) (.pair .str .unit))), .v (.int .i64), .v (.int .i64)]), (3, .box [.o .str 9 true, .o (.pair (.int .i64) (.pair .str .unit)) 54 true, .v (.int .i64), .v (.int .i64)])]), (16, [(0, .box [.v (.sl (.int .u8)), .v (.int .i64)]), (2, .box [.v (.sl .str), .v (.sl (.pair (.int .i64) (.pair .str .unit))), .v (.int .i64), .v (.int .i64)]), (3, .box [.v (.sl .str), .v (.sl (.pair (.int .i64) (.pair .str .unit))), .v (.int .i64), .v (.int .i64)])])]),
    (82, [(4, [(0, .c (.v (.sl .str))), (1, .c (.v (.sl .str))), (5, .c (.v (.int .i64)))])]),
    (83, [(4, [(0, .c (.v (.sl (.pair (.int .i64) (.pair .str .unit))))), (1, .c (.v (.sl (.pair (.int .i64) (.pair .str .unit))))), (5, .c (.v (.int .i64)))])]),
    (85, [(2, [(0, .c (.v (.int .i64))), (5, .c (.v (.int .i64)))])]),
    (86, [(3, [(0, .c (.v .str)), (1, .c (.v .str)), (2, .c (.v (.int .i64)))]), (5, [(0, .c (.v .str)), (1, .c (.v .str)), (2, .c (.v (.int .i64)))])]),
    (108, [(3, [(0, .box [.v (.sl (.int .u8)), .v (.int .i64)]), (2, .box [.v (.sl .str), .v (.sl (.pair (.int .i64) (.pair .str .unit))), .v (.int .i64), .v (.int .i64)]), (3, .box [.o .str 9 true, .o (.pair (.int .i64) (.pair .str .unit)) 54 true, .v (.int .i64), .v (.int .i64)]), (4, .c (.v (.int .i64)))]), (8, [(0, .box [.v (.sl (.int .u8)), .v (.int .i64)]), (2, .box [.v (.sl .str), .v (.sl (.pair (.int .i64) (.pair .str .unit))), .v (.int .i64), .v (.int .i64)]), (3, .box [.o .str 9 true, .o (.pair (.int .i64) (.pair .str .unit)) 54 true, .v (.int .i64), .v (.int .i64)])]), (9, [(0, .box [.v (.sl (.int .u8)), .v (.int .i64)]), (2, .box [.v (.sl .str), .v (.sl (.pair (.int .i64) (.pair .str .unit))), .v (.int .i64), .v (.int .i64)]), (3, .box [.o .str 9 true, .o (.pair (.int .i64) (.pair .str .unit)) 54 true, .v (.int .i64), .v (.int .i64)]), (5, .c (.v (.int .i64)))])]),
    (109, [(2, [(0, .c (.v .str)), (1, .c (.v (.int .i64))), (5, .c (.v .str))])]),
    (130, [(5, [(1, .box [.v (.sl .str), .v (.sl (.pair (.int .i64) (.pair .str .unit))), .v (.int .i64), .v (.int .i64)]), (2, .box [.v (.sl .str), .v (.sl (.pair (.int .i64) (.pair .str .unit))), .v (.int .i64), .v (.int .i64)]), (3, .box [.o .str 9 true, .o (.pair (.int .i64) (.pair .str .unit)) 54 true, .v (.int .i64), .v (.int .i64)]), (4, .c (.v (.int .i64)))])]),
    (70104, [(2, [(0, .c (.v (.sl .str))), (1, .clo 69 []), (7, .c (.v (.int .i64))), (8, .c (.v (.int .i64)))])]),
    (72105, [(2, [(0, .c (.v (.sl (.pair (.int .i64) (.pair .str .unit))))), (1, .clo 71 []), (7, .c (.v (.int .i64))), (8, .c (.v (.int .i64)))])])]
  eqs := [(54, [.int .i64, .str])]
theorem tabs_ok : tabs.ok Try.prog = true := by kernel_rfl
/-- a disk in order; what is read of it -/
def waitOkL (w : Int × ByteArray × Unit) : Bool := decide (0 ≤ w.1) && decide (w.1 ≤ 41) && decide (w.2.1.size ≤ 1200)
def diskOkL (cells : List ByteArray) (waits : List (Int × ByteArray × Unit)) (room left : Int) : Bool :=
  decide (cells.length = 42) && decide (waits.length ≤ 100) && decide (-1 ≤ room) && decide (-1 ≤ left) && cells.all (fun s => decide (s.size ≤ 1200)) && waits.all waitOkL
def readL (waits : List (Int × ByteArray × Unit)) (cells : List ByteArray) (at_ : Int) : ByteArray := match waits.reverse.find? (fun w => w.1 == at_) with
  | some w => w.2.1
  | none => cells.getD at_.toNat ByteArray.empty
noncomputable def diskreadR (x : (List ByteArray × List (Int × ByteArray × Unit) × Int × Int × Unit) × Int × Unit) : Option ((ByteArray × Unit) × ((Unit × Unit × Unit × Unit × Unit) × Unit × Unit)) :=
  bif Nat.ble x.1.1.length 1048576 && Nat.ble x.1.2.1.length 1048576 then some ((if diskOkL x.1.1 x.1.2.1 x.1.2.2.1 x.1.2.2.2.1 = true ∧ 0 ≤ x.2.1 ∧ x.2.1 ≤ 41 then readL x.1.2.1 x.1.1 x.2.1 else ByteArray.empty, ()), (((), (), (), (), ()), (), ())) else none
noncomputable def extR : (f : Nat) → Option ((specOf tabs.spec f).In → Option (specOf tabs.spec f).Out) := fun f => match f with
  | 33 => some diskreadR
  | _ => none

noncomputable def cx : Go.Rf.Cx := tabs.cx Try.prog extR (fun _ => none) (fun _ => none)
theorem good : Go.Rf.Good cx := Go.Rf.Tabs.good tabs_ok
end Go.Proofs.Ytldjfonpegffiaa.R
end

section
/-! Rf: the functions, and what each answers. -/
set_option autoImplicit false
set_option linter.unusedVariables false
namespace Go.Proofs.Ytldjfonpegffiaa.R
open Go.Rf
/-! loop.example/jetton/laws.FnDiskCrash -/
noncomputable def F9 (k : Nat) (a0 : List Int) : Option ((Bool × Unit) × (Unit × Unit)) := callF cx k 9 (a0, ())
noncomputable def F9c10 (k : Nat) (x3_0 : List ByteArray) (x3_1 : List (Int × ByteArray × Unit)) (x3_2 : Int) (x3_3 : Int) (x5 : Int) (x7_0 : List ByteArray) (x7_1 : List (Int × ByteArray × Unit)) (x7_2 : Int) (x7_3 : Int) (x8_0 : List ByteArray) (x8_1 : List (Int × ByteArray × Unit)) (x8_2 : Int) (x8_3 : Int) (x9_0 : List ByteArray) (x9_1 : List (Int × ByteArray × Unit)) (x9_2 : Int) (x9_3 : Int) (x10 : Int) : Option ((Bool × Unit) × (Unit × Unit)) := cutF cx 9 10 Try.f9 k ((x3_0, x3_1, x3_2, x3_3, ()), x5, (x7_0, x7_1, x7_2, x7_3, ()), (x8_0, x8_1, x8_2, x8_3, ()), (x9_0, x9_1, x9_2, x9_3, ()), x10, ())
noncomputable def F9c16 (k : Nat) (x3_0 : List ByteArray) (x3_1 : List (Int × ByteArray × Unit)) (x3_2 : Int) (x3_3 : Int) (x5 : Int) (x7_0 : List ByteArray) (x7_1 : List (Int × ByteArray × Unit)) (x7_2 : Int) (x7_3 : Int) (x8_0 : List ByteArray) (x8_1 : List (Int × ByteArray × Unit)) (x8_2 : Int) (x8_3 : Int) (x9_0 : List ByteArray) (x9_1 : List (Int × ByteArray × Unit)) (x9_2 : Int) (x9_3 : Int) (x10 : Int) (x11 : Bool) (x12 : Int) (x73 : List ByteArray) (x74 : Int) (x76 : ByteArray) (x77_0 : List ByteArray) (x77_1 : List (Int × ByteArray × Unit)) (x77_2 : Int) (x77_3 : Int) (x78 : Int) (x79 : ByteArray) (x80 : Bool) : Option ((Bool × Unit) × (Unit × Unit)) := cutF cx 9 16 Try.f9 k ((x3_0, x3_1, x3_2, x3_3, ()), x5, (x7_0, x7_1, x7_2, x7_3, ()), (x8_0, x8_1, x8_2, x8_3, ()), (x9_0, x9_1, x9_2, x9_3, ()), x10, x11, x12, x73, x74, x76, (x77_0, x77_1, x77_2, x77_3, ()), x78, x79, x80, ())
noncomputable def F9c17 (k : Nat) (x3_0 : List ByteArray) (x3_1 : List (Int × ByteArray × Unit)) (x3_2 : Int) (x3_3 : Int) (x5 : Int) (x7_0 : List ByteArray) (x7_1 : List (Int × ByteArray × Unit)) (x7_2 : Int) (x7_3 : Int) (x8_0 : List ByteArray) (x8_1 : List (Int × ByteArray × Unit)) (x8_2 : Int) (x8_3 : Int) (x9_0 : List ByteArray) (x9_1 : List (Int × ByteArray × Unit)) (x9_2 : Int) (x9_3 : Int) (x10 : Int) (x11 : Bool) (x12 : Int) (x73 : List ByteArray) (x74 : Int) (x76 : ByteArray) (x77_0 : List ByteArray) (x77_1 : List (Int × ByteArray × Unit)) (x77_2 : Int) (x77_3 : Int) (x78 : Int) (x79 : ByteArray) (x80 : Bool) : Option ((Bool × Unit) × (Unit × Unit)) := cutF cx 9 17 Try.f9 k ((x3_0, x3_1, x3_2, x3_3, ()), x5, (x7_0, x7_1, x7_2, x7_3, ()), (x8_0, x8_1, x8_2, x8_3, ()), (x9_0, x9_1, x9_2, x9_3, ()), x10, x11, x12, x73, x74, x76, (x77_0, x77_1, x77_2, x77_3, ()), x78, x79, x80, ())
/-! loop.example/jetton/spec.DiskNew -/
noncomputable def F18 (k : Nat) : Option ((((List ByteArray) × (List (Int × ByteArray × Unit)) × Int × Int × Unit) × Unit) × (Unit)) := callF cx k 18 ()
/-! loop.example/jetton/spec.DiskOk -/
noncomputable def F29 (k : Nat) (a0_0 : List ByteArray) (a0_1 : List (Int × ByteArray × Unit)) (a0_2 : Int) (a0_3 : Int) : Option ((Bool × Unit) × ((Unit × Unit × Unit × Unit × Unit) × Unit)) := callF cx k 29 ((a0_0, a0_1, a0_2, a0_3, ()), ())
/-! loop.example/jetton/impl.DiskOk -/
noncomputable def F31 (k : Nat) (a0_0 : List ByteArray) (a0_1 : List (Int × ByteArray × Unit)) (a0_2 : Int) (a0_3 : Int) : Option ((Bool × Unit) × ((Unit × Unit × Unit × Unit × Unit) × Unit)) := callF cx k 31 ((a0_0, a0_1, a0_2, a0_3, ()), ())
/-! loop.example/jetton/impl.DiskRead -/
noncomputable def F33 (k : Nat) (a0_0 : List ByteArray) (a0_1 : List (Int × ByteArray × Unit)) (a0_2 : Int) (a0_3 : Int) (a1 : Int) : Option ((ByteArray × Unit) × ((Unit × Unit × Unit × Unit × Unit) × Unit × Unit)) := callF cx k 33 ((a0_0, a0_1, a0_2, a0_3, ()), a1, ())
/-! loop.example/jetton/spec.DrawDiskCrash -/
noncomputable def F34 (k : Nat) (a0 : List Int) : Option ((((List ByteArray) × (List (Int × ByteArray × Unit)) × Int × Int × Unit) × Int × Int × Int × Unit) × (Unit × Unit)) := callF cx k 34 (a0, ())
/-! loop.example/jetton/impl.DiskCrash -/
noncomputable def F35 (k : Nat) (a0_0 : List ByteArray) (a0_1 : List (Int × ByteArray × Unit)) (a0_2 : Int) (a0_3 : Int) (a1 : Int) (a2 : Int) (a3 : Int) : Option ((((List ByteArray) × (List (Int × ByteArray × Unit)) × Int × Int × Unit) × Unit) × ((Unit × Unit × Unit × Unit × Unit) × Unit × Unit × Unit × Unit)) := callF cx k 35 ((a0_0, a0_1, a0_2, a0_3, ()), a1, a2, a3, ())
noncomputable def F35c5 (k : Nat) (x1 : Int) (x2 : Int) (x3 : Int) (x8_0 : List ByteArray) (x8_1 : List (Int × ByteArray × Unit)) (x8_2 : Int) (x8_3 : Int) (x9_0 : List ByteArray) (x9_1 : List (Int × ByteArray × Unit)) (x9_2 : Int) (x9_3 : Int) (x25 : List (Int × ByteArray × Unit)) (x26 : Int) (x27 : Int) : Option ((((List ByteArray) × (List (Int × ByteArray × Unit)) × Int × Int × Unit) × Unit) × ((Unit × Unit × Unit × Unit × Unit) × Unit × Unit × Unit × Unit)) := cutF cx 35 5 Try.f35 k (x1, x2, x3, (x8_0, x8_1, x8_2, x8_3, ()), (x9_0, x9_1, x9_2, x9_3, ()), x25, x26, x27, ())
noncomputable def F35c11 (k : Nat) (x1 : Int) (x2 : Int) (x3 : Int) (x8_0 : List ByteArray) (x8_1 : List (Int × ByteArray × Unit)) (x8_2 : Int) (x8_3 : Int) (x9_0 : List ByteArray) (x9_1 : List (Int × ByteArray × Unit)) (x9_2 : Int) (x9_3 : Int) (x25 : List (Int × ByteArray × Unit)) (x26 : Int) (x27 : Int) : Option ((((List ByteArray) × (List (Int × ByteArray × Unit)) × Int × Int × Unit) × Unit) × ((Unit × Unit × Unit × Unit × Unit) × Unit × Unit × Unit × Unit)) := cutF cx 35 11 Try.f35 k (x1, x2, x3, (x8_0, x8_1, x8_2, x8_3, ()), (x9_0, x9_1, x9_2, x9_3, ()), x25, x26, x27, ())
/-! loop.example/jetton/laws.jtDisk -/
noncomputable def F36 (k : Nat) (a0_0 : List ByteArray) (a0_1 : List (Int × ByteArray × Unit)) (a0_2 : Int) (a0_3 : Int) (a1_0 : List ByteArray) (a1_1 : List (Int × ByteArray × Unit)) (a1_2 : Int) (a1_3 : Int) : Option ((Bool × Unit) × ((Unit × Unit × Unit × Unit × Unit) × (Unit × Unit × Unit × Unit × Unit) × Unit)) := callF cx k 36 ((a0_0, a0_1, a0_2, a0_3, ()), (a1_0, a1_1, a1_2, a1_3, ()), ())
/-! loop.example/jetton/spec.DiskCrash -/
noncomputable def F37 (k : Nat) (a0_0 : List ByteArray) (a0_1 : List (Int × ByteArray × Unit)) (a0_2 : Int) (a0_3 : Int) (a1 : Int) (a2 : Int) (a3 : Int) : Option ((((List ByteArray) × (List (Int × ByteArray × Unit)) × Int × Int × Unit) × Unit) × ((Unit × Unit × Unit × Unit × Unit) × Unit × Unit × Unit × Unit)) := callF cx k 37 ((a0_0, a0_1, a0_2, a0_3, ()), a1, a2, a3, ())
noncomputable def F37c5 (k : Nat) (x1 : Int) (x2 : Int) (x3 : Int) (x4_0 : List ByteArray) (x4_1 : List (Int × ByteArray × Unit)) (x4_2 : Int) (x4_3 : Int) (x8_0 : List ByteArray) (x8_1 : List (Int × ByteArray × Unit)) (x8_2 : Int) (x8_3 : Int) (x9_0 : List ByteArray) (x9_1 : List (Int × ByteArray × Unit)) (x9_2 : Int) (x9_3 : Int) (x10 : Int) : Option ((((List ByteArray) × (List (Int × ByteArray × Unit)) × Int × Int × Unit) × Unit) × ((Unit × Unit × Unit × Unit × Unit) × Unit × Unit × Unit × Unit)) := cutF cx 37 5 Try.f37 k (x1, x2, x3, (x4_0, x4_1, x4_2, x4_3, ()), (x8_0, x8_1, x8_2, x8_3, ()), (x9_0, x9_1, x9_2, x9_3, ()), x10, ())
noncomputable def F37c6 (k : Nat) (x1 : Int) (x2 : Int) (x3 : Int) (x4_0 : List ByteArray) (x4_1 : List (Int × ByteArray × Unit)) (x4_2 : Int) (x4_3 : Int) (x8_0 : List ByteArray) (x8_1 : List (Int × ByteArray × Unit)) (x8_2 : Int) (x8_3 : Int) (x9_0 : List ByteArray) (x9_1 : List (Int × ByteArray × Unit)) (x9_2 : Int) (x9_3 : Int) (x10 : Int) : Option ((((List ByteArray) × (List (Int × ByteArray × Unit)) × Int × Int × Unit) × Unit) × ((Unit × Unit × Unit × Unit × Unit) × Unit × Unit × Unit × Unit)) := cutF cx 37 6 Try.f37 k (x1, x2, x3, (x4_0, x4_1, x4_2, x4_3, ()), (x8_0, x8_1, x8_2, x8_3, ()), (x9_0, x9_1, x9_2, x9_3, ()), x10, ())
/-! loop.example/jetton/spec.l1Open -/
noncomputable def F51 (k : Nat) (a0 : List Int) : Option ((((List Int) × Int × Unit) × Unit) × (Unit × Unit)) := callF cx k 51 (a0, ())
noncomputable def F51c3 (k : Nat) (x0 : List Int) : Option ((((List Int) × Int × Unit) × Unit) × (Unit × Unit)) := cutF cx 51 3 Try.f51 k (x0, ())
/-! (*loop.example/jetton/spec.l1Rd).of -/
noncomputable def F52 (k : Nat) (a0_0 : List Int) (a0_1 : Int) (a1 : List ByteArray) : Option ((ByteArray × Unit) × (((List Int) × Int × Unit) × Unit × Unit)) := callF cx k 52 ((a0_0, a0_1, ()), a1, ())
/-! loop.example/jetton/spec.l7Ok -/
noncomputable def F65 (k : Nat) (a0_0 : List ByteArray) (a0_1 : List (Int × ByteArray × Unit)) (a0_2 : Int) (a0_3 : Int) : Option ((Bool × Unit) × ((Unit × Unit × Unit × Unit × Unit) × Unit)) := callF cx k 65 ((a0_0, a0_1, a0_2, a0_3, ()), ())
noncomputable def F65c4 (k : Nat) (x1_0 : List ByteArray) (x1_1 : List (Int × ByteArray × Unit)) (x1_2 : Int) (x1_3 : Int) (x3 : Int) : Option ((Bool × Unit) × ((Unit × Unit × Unit × Unit × Unit) × Unit)) := cutF cx 65 4 Try.f65 k ((x1_0, x1_1, x1_2, x1_3, ()), x3, ())
noncomputable def F65c9 (k : Nat) (x1_0 : List ByteArray) (x1_1 : List (Int × ByteArray × Unit)) (x1_2 : Int) (x1_3 : Int) (x4 : Int) : Option ((Bool × Unit) × ((Unit × Unit × Unit × Unit × Unit) × Unit)) := cutF cx 65 9 Try.f65 k ((x1_0, x1_1, x1_2, x1_3, ()), x4, ())
/-! loop.example/jetton/impl.DiskOk$1 -/
noncomputable def F69 (k : Nat) (a0 : ByteArray) : Option ((Bool × Unit) × (Unit × Unit)) := callF cx k 69 (a0, ())
/-! loop.example/jetton/impl.DiskOk$2 -/
noncomputable def F71 (k : Nat) (a0_0 : Int) (a0_1 : ByteArray) : Option ((Bool × Unit) × ((Unit × Unit × Unit) × Unit)) := callF cx k 71 ((a0_0, a0_1, ()), ())
/-! loop.example/jetton/impl.isCell -/
noncomputable def F72 (k : Nat) (a0 : Int) : Option ((Bool × Unit) × (Unit × Unit)) := callF cx k 72 (a0, ())
/-! loop.example/jetton/spec.l1In -/
noncomputable def F73 (k : Nat) (a0 : Int) (a1 : Int) (a2 : Int) : Option ((Bool × Unit) × (Unit × Unit × Unit × Unit)) := callF cx k 73 (a0, a1, a2, ())
/-! loop.example/jetton/spec.l15AnyDisk -/
noncomputable def F76 (k : Nat) (a0_0 : List Int) (a0_1 : Int) : Option ((((List ByteArray) × (List (Int × ByteArray × Unit)) × Int × Int × Unit) × Unit) × (((List Int) × Int × Unit) × Unit)) := callF cx k 76 ((a0_0, a0_1, ()), ())
noncomputable def F76c16 (k : Nat) (x0_0 : List Int) (x0_1 : Int) (x2_0 : List ByteArray) (x2_1 : List (Int × ByteArray × Unit)) (x2_2 : Int) (x2_3 : Int) (x3_0 : List ByteArray) (x3_1 : List (Int × ByteArray × Unit)) (x3_2 : Int) (x3_3 : Int) : Option ((((List ByteArray) × (List (Int × ByteArray × Unit)) × Int × Int × Unit) × Unit) × (((List Int) × Int × Unit) × Unit)) := cutF cx 76 16 Try.f76 k ((x0_0, x0_1, ()), (x2_0, x2_1, x2_2, x2_3, ()), (x3_0, x3_1, x3_2, x3_3, ()), ())
noncomputable def F76c14 (k : Nat) (x0_0 : List Int) (x0_1 : Int) (x2_0 : List ByteArray) (x2_1 : List (Int × ByteArray × Unit)) (x2_2 : Int) (x2_3 : Int) (x3_0 : List ByteArray) (x3_1 : List (Int × ByteArray × Unit)) (x3_2 : Int) (x3_3 : Int) : Option ((((List ByteArray) × (List (Int × ByteArray × Unit)) × Int × Int × Unit) × Unit) × (((List Int) × Int × Unit) × Unit)) := cutF cx 76 14 Try.f76 k ((x0_0, x0_1, ()), (x2_0, x2_1, x2_2, x2_3, ()), (x3_0, x3_1, x3_2, x3_3, ()), ())
/-! (*loop.example/jetton/spec.l1Rd).one -/
noncomputable def F77 (k : Nat) (a0_0 : List Int) (a0_1 : Int) (a1 : List Int) : Option ((Int × Unit) × (((List Int) × Int × Unit) × Unit × Unit)) := callF cx k 77 ((a0_0, a0_1, ()), a1, ())
/-! loop.example/jetton/spec.l15Mask -/
noncomputable def F78 (k : Nat) (a0_0 : List Int) (a0_1 : Int) : Option ((Int × Unit) × (((List Int) × Int × Unit) × Unit)) := callF cx k 78 ((a0_0, a0_1, ()), ())
/-! (*loop.example/jetton/spec.l1Rd).pick -/
noncomputable def F79 (k : Nat) (a0_0 : List Int) (a0_1 : Int) (a1 : Int) : Option ((Int × Unit) × (((List Int) × Int × Unit) × Unit × Unit)) := callF cx k 79 ((a0_0, a0_1, ()), a1, ())
/-! loop.example/jetton/impl.clone[string] -/
noncomputable def F80 (k : Nat) (a0 : List ByteArray) : Option (((List ByteArray) × Unit) × (Unit × Unit)) := callF cx k 80 (a0, ())
/-! loop.example/jetton/impl.torn -/
noncomputable def F81 (k : Nat) (a0 : ByteArray) (a1 : ByteArray) (a2 : Int) : Option ((ByteArray × Unit) × (Unit × Unit × Unit × Unit)) := callF cx k 81 (a0, a1, a2, ())
/-! loop.example/jetton/laws.jtTexts -/
noncomputable def F82 (k : Nat) (a0 : List ByteArray) (a1 : List ByteArray) : Option ((Bool × Unit) × (Unit × Unit × Unit)) := callF cx k 82 (a0, a1, ())
noncomputable def F82c4 (k : Nat) (x0 : List ByteArray) (x1 : List ByteArray) (x5 : Int) : Option ((Bool × Unit) × (Unit × Unit × Unit)) := cutF cx 82 4 Try.f82 k (x0, x1, x5, ())
/-! loop.example/jetton/laws.jtWaits -/
noncomputable def F83 (k : Nat) (a0 : List (Int × ByteArray × Unit)) (a1 : List (Int × ByteArray × Unit)) : Option ((Bool × Unit) × (Unit × Unit × Unit)) := callF cx k 83 (a0, a1, ())
noncomputable def F83c4 (k : Nat) (x0 : List (Int × ByteArray × Unit)) (x1 : List (Int × ByteArray × Unit)) (x5 : Int) : Option ((Bool × Unit) × (Unit × Unit × Unit)) := cutF cx 83 4 Try.f83 k (x0, x1, x5, ())
/-! loop.example/jetton/spec.l7Copy -/
noncomputable def F84 (k : Nat) (a0_0 : List ByteArray) (a0_1 : List (Int × ByteArray × Unit)) (a0_2 : Int) (a0_3 : Int) : Option ((((List ByteArray) × (List (Int × ByteArray × Unit)) × Int × Int × Unit) × Unit) × ((Unit × Unit × Unit × Unit × Unit) × Unit)) := callF cx k 84 ((a0_0, a0_1, a0_2, a0_3, ()), ())
/-! loop.example/jetton/spec.l7Bit -/
noncomputable def F85 (k : Nat) (a0 : Int) (a1 : Int) : Option ((Bool × Unit) × (Unit × Unit × Unit)) := callF cx k 85 (a0, a1, ())
noncomputable def F85c2 (k : Nat) (x0 : Int) (x5 : Int) : Option ((Bool × Unit) × (Unit × Unit × Unit)) := cutF cx 85 2 Try.f85 k (x0, x5, ())
/-! loop.example/jetton/spec.l7Torn -/
noncomputable def F86 (k : Nat) (a0 : ByteArray) (a1 : ByteArray) (a2 : Int) : Option ((ByteArray × Unit) × (Unit × Unit × Unit × Unit)) := callF cx k 86 (a0, a1, a2, ())
noncomputable def F86c3 (k : Nat) (x0 : ByteArray) (x1 : ByteArray) (x2 : Int) : Option ((ByteArray × Unit) × (Unit × Unit × Unit × Unit)) := cutF cx 86 3 Try.f86 k (x0, x1, x2, ())
noncomputable def F86c5 (k : Nat) (x0 : ByteArray) (x1 : ByteArray) (x2 : Int) : Option ((ByteArray × Unit) × (Unit × Unit × Unit × Unit)) := cutF cx 86 5 Try.f86 k (x0, x1, x2, ())
/-! loop.example/jetton/spec.l7Wait -/
noncomputable def F102 (k : Nat) (a0_0 : Int) (a0_1 : ByteArray) : Option ((Bool × Unit) × ((Unit × Unit × Unit) × Unit)) := callF cx k 102 ((a0_0, a0_1, ()), ())
/-! loop.example/jetton/impl.in -/
noncomputable def F106 (k : Nat) (a0 : Int) (a1 : Int) (a2 : Int) : Option ((Bool × Unit) × (Unit × Unit × Unit × Unit)) := callF cx k 106 (a0, a1, a2, ())
/-! loop.example/jetton/spec.l15Disk -/
noncomputable def F108 (k : Nat) (a0_0 : List Int) (a0_1 : Int) : Option ((((List ByteArray) × (List (Int × ByteArray × Unit)) × Int × Int × Unit) × Unit) × (((List Int) × Int × Unit) × Unit)) := callF cx k 108 ((a0_0, a0_1, ()), ())
noncomputable def F108c3 (k : Nat) (x0_0 : List Int) (x0_1 : Int) (x2_0 : List ByteArray) (x2_1 : List (Int × ByteArray × Unit)) (x2_2 : Int) (x2_3 : Int) (x3_0 : List ByteArray) (x3_1 : List (Int × ByteArray × Unit)) (x3_2 : Int) (x3_3 : Int) (x4 : Int) : Option ((((List ByteArray) × (List (Int × ByteArray × Unit)) × Int × Int × Unit) × Unit) × (((List Int) × Int × Unit) × Unit)) := cutF cx 108 3 Try.f108 k ((x0_0, x0_1, ()), (x2_0, x2_1, x2_2, x2_3, ()), (x3_0, x3_1, x3_2, x3_3, ()), x4, ())
noncomputable def F108c8 (k : Nat) (x0_0 : List Int) (x0_1 : Int) (x2_0 : List ByteArray) (x2_1 : List (Int × ByteArray × Unit)) (x2_2 : Int) (x2_3 : Int) (x3_0 : List ByteArray) (x3_1 : List (Int × ByteArray × Unit)) (x3_2 : Int) (x3_3 : Int) : Option ((((List ByteArray) × (List (Int × ByteArray × Unit)) × Int × Int × Unit) × Unit) × (((List Int) × Int × Unit) × Unit)) := cutF cx 108 8 Try.f108 k ((x0_0, x0_1, ()), (x2_0, x2_1, x2_2, x2_3, ()), (x3_0, x3_1, x3_2, x3_3, ()), ())
noncomputable def F108c9 (k : Nat) (x0_0 : List Int) (x0_1 : Int) (x2_0 : List ByteArray) (x2_1 : List (Int × ByteArray × Unit)) (x2_2 : Int) (x2_3 : Int) (x3_0 : List ByteArray) (x3_1 : List (Int × ByteArray × Unit)) (x3_2 : Int) (x3_3 : Int) (x5 : Int) : Option ((((List ByteArray) × (List (Int × ByteArray × Unit)) × Int × Int × Unit) × Unit) × (((List Int) × Int × Unit) × Unit)) := cutF cx 108 9 Try.f108 k ((x0_0, x0_1, ()), (x2_0, x2_1, x2_2, x2_3, ()), (x3_0, x3_1, x3_2, x3_3, ()), x5, ())
/-! loop.example/jetton/spec.l1Many -/
noncomputable def F109 (k : Nat) (a0 : ByteArray) (a1 : Int) : Option ((ByteArray × Unit) × (Unit × Unit × Unit)) := callF cx k 109 (a0, a1, ())
noncomputable def F109c2 (k : Nat) (x0 : ByteArray) (x1 : Int) (x5 : ByteArray) : Option ((ByteArray × Unit) × (Unit × Unit × Unit)) := cutF cx 109 2 Try.f109 k (x0, x1, x5, ())
/-! slices.Clip[[]string,string] -/
noncomputable def F110 (k : Nat) (a0 : List ByteArray) : Option (((List ByteArray) × Unit) × (Unit × Unit)) := callF cx k 110 (a0, ())
/-! slices.Clone[[]string,string] -/
noncomputable def F111 (k : Nat) (a0 : List ByteArray) : Option (((List ByteArray) × Unit) × (Unit × Unit)) := callF cx k 111 (a0, ())
/-! loop.example/jetton/spec.l7Write -/
noncomputable def F128 (k : Nat) (a0_0 : List ByteArray) (a0_1 : List (Int × ByteArray × Unit)) (a0_2 : Int) (a0_3 : Int) (a1 : Int) (a2 : ByteArray) : Option ((((List ByteArray) × (List (Int × ByteArray × Unit)) × Int × Int × Unit) × Bool × Unit) × ((Unit × Unit × Unit × Unit × Unit) × Unit × Unit × Unit)) := callF cx k 128 ((a0_0, a0_1, a0_2, a0_3, ()), a1, a2, ())
/-! loop.example/jetton/spec.l15PageText -/
noncomputable def F129 (k : Nat) (a0_0 : List Int) (a0_1 : Int) : Option ((ByteArray × Unit) × (((List Int) × Int × Unit) × Unit)) := callF cx k 129 ((a0_0, a0_1, ()), ())
/-! loop.example/jetton/spec.l7Sync -/
noncomputable def F130 (k : Nat) (a0_0 : List ByteArray) (a0_1 : List (Int × ByteArray × Unit)) (a0_2 : Int) (a0_3 : Int) : Option ((((List ByteArray) × (List (Int × ByteArray × Unit)) × Int × Int × Unit) × Unit) × ((Unit × Unit × Unit × Unit × Unit) × Unit)) := callF cx k 130 ((a0_0, a0_1, a0_2, a0_3, ()), ())
noncomputable def F130c5 (k : Nat) (x1_0 : List ByteArray) (x1_1 : List (Int × ByteArray × Unit)) (x1_2 : Int) (x1_3 : Int) (x2_0 : List ByteArray) (x2_1 : List (Int × ByteArray × Unit)) (x2_2 : Int) (x2_3 : Int) (x3_0 : List ByteArray) (x3_1 : List (Int × ByteArray × Unit)) (x3_2 : Int) (x3_3 : Int) (x4 : Int) : Option ((((List ByteArray) × (List (Int × ByteArray × Unit)) × Int × Int × Unit) × Unit) × ((Unit × Unit × Unit × Unit × Unit) × Unit)) := cutF cx 130 5 Try.f130 k ((x1_0, x1_1, x1_2, x1_3, ()), (x2_0, x2_1, x2_2, x2_3, ()), (x3_0, x3_1, x3_2, x3_3, ()), x4, ())
/-! loop.example/jetton/spec.l7Less -/
noncomputable def F144 (k : Nat) (a0 : Int) : Option ((Int × Unit) × (Unit × Unit)) := callF cx k 144 (a0, ())
/-! slices.ContainsFunc[[]string,string] -/
noncomputable def F70068 (k : Nat) (a0 : List ByteArray) : Option ((Bool × Unit) × (Unit × Unit × Unit)) := callF cx k 70068 (a0, (()), ())
/-! slices.IndexFunc[[]string,string] -/
noncomputable def F70104 (k : Nat) (a0 : List ByteArray) : Option ((Int × Unit) × (Unit × Unit × Unit)) := callF cx k 70104 (a0, (()), ())
noncomputable def F70104c2 (k : Nat) (x0 : List ByteArray) (x7 : Int) (x8 : Int) : Option ((Int × Unit) × (Unit × Unit × Unit)) := cutF cx 70104 2 Try.f104 k (x0, (()), x7, x8, ())
/-! slices.ContainsFunc[[]loop.example/jetton/impl.Wait,loop.example/jetton/impl.Wait] -/
noncomputable def F72070 (k : Nat) (a0 : List (Int × ByteArray × Unit)) : Option ((Bool × Unit) × (Unit × Unit × Unit)) := callF cx k 72070 (a0, (()), ())
/-! slices.IndexFunc[[]loop.example/jetton/impl.Wait,loop.example/jetton/impl.Wait] -/
noncomputable def F72105 (k : Nat) (a0 : List (Int × ByteArray × Unit)) : Option ((Int × Unit) × (Unit × Unit × Unit)) := callF cx k 72105 (a0, (()), ())
noncomputable def F72105c2 (k : Nat) (x0 : List (Int × ByteArray × Unit)) (x7 : Int) (x8 : Int) : Option ((Int × Unit) × (Unit × Unit × Unit)) := cutF cx 72105 2 Try.f105 k (x0, (()), x7, x8, ())
theorem F9_eq (k : Nat) (a0 : List Int) : F9 (k + 2) a0 =
    if (decide ((a0.length : Int) > (1048576 : Int))) = true then some ((true, ()), ((), ())) else (F34 k a0).bind fun r1 => (F35 k r1.1.1.1 r1.1.1.2.1 r1.1.1.2.2.1 r1.1.1.2.2.2.1 r1.1.2.1 r1.1.2.2.1 r1.1.2.2.2.1).bind fun r2 => (F37 k r1.1.1.1 r1.1.1.2.1 r1.1.1.2.2.1 r1.1.1.2.2.2.1 r1.1.2.1 r1.1.2.2.1 r1.1.2.2.2.1).bind fun r3 => (F36 k r2.1.1.1 r2.1.1.2.1 r2.1.1.2.2.1 r2.1.1.2.2.2.1 r3.1.1.1 r3.1.1.2.1 r3.1.1.2.2.1 r3.1.1.2.2.2.1).bind fun r4 => if (!r4.1.1) = true then (F37 k r1.1.1.1 r1.1.1.2.1 r1.1.1.2.2.1 r1.1.1.2.2.2.1 r1.1.2.1 r1.1.2.2.1 r1.1.2.2.2.1).bind fun r5 => (F36 k r2.1.1.1 r2.1.1.2.1 r2.1.1.2.2.1 r2.1.1.2.2.2.1 r5.1.1.1 r5.1.1.2.1 r5.1.1.2.2.1 r5.1.1.2.2.2.1).bind fun r6 => some ((r6.1.1, ()), ((), ())) else (F29 k r1.1.1.1 r1.1.1.2.1 r1.1.1.2.2.1 r1.1.1.2.2.2.1).bind fun r7 => if (!r7.1.1) = true then (F37 k r1.1.1.1 r1.1.1.2.1 r1.1.1.2.2.1 r1.1.1.2.2.2.1 r1.1.2.1 r1.1.2.2.1 r1.1.2.2.2.1).bind fun r8 => (F36 k r2.1.1.1 r2.1.1.2.1 r2.1.1.2.2.1 r2.1.1.2.2.2.1 r8.1.1.1 r8.1.1.2.1 r8.1.1.2.2.1 r8.1.1.2.2.2.1).bind fun r9 => some ((r9.1.1, ()), ((), ())) else if (decide (r1.1.2.1 < (0 : Int))) = true then (F37 k r1.1.1.1 r1.1.1.2.1 r1.1.1.2.2.1 r1.1.1.2.2.2.1 r1.1.2.1 r1.1.2.2.1 r1.1.2.2.2.1).bind fun r10 => (F36 k r2.1.1.1 r2.1.1.2.1 r2.1.1.2.2.1 r2.1.1.2.2.2.1 r10.1.1.1 r10.1.1.2.1 r10.1.1.2.2.1 r10.1.1.2.2.2.1).bind fun r11 => some ((r11.1.1, ()), ((), ())) else (F35 k r1.1.1.1 r1.1.1.2.1 r1.1.1.2.2.1 r1.1.1.2.2.2.1 (0 : Int) (-1 : Int) (0 : Int)).bind fun r12 => (F35 k r1.1.1.1 r1.1.1.2.1 r1.1.1.2.2.1 r1.1.1.2.2.2.1 (1152921504606846975 : Int) (-1 : Int) (0 : Int)).bind fun r13 => F9c10 k r1.1.1.1 r1.1.1.2.1 r1.1.1.2.2.1 r1.1.1.2.2.2.1 r1.1.2.2.1 r2.1.1.1 r2.1.1.2.1 r2.1.1.2.2.1 r2.1.1.2.2.2.1 r12.1.1.1 r12.1.1.2.1 r12.1.1.2.2.1 r12.1.1.2.2.2.1 r13.1.1.1 r13.1.1.2.1 r13.1.1.2.2.1 r13.1.1.2.2.2.1 (0 : Int) := by kernel_rfl
theorem F9c10_eq (k : Nat) (x3_0 : List ByteArray) (x3_1 : List (Int × ByteArray × Unit)) (x3_2 : Int) (x3_3 : Int) (x5 : Int) (x7_0 : List ByteArray) (x7_1 : List (Int × ByteArray × Unit)) (x7_2 : Int) (x7_3 : Int) (x8_0 : List ByteArray) (x8_1 : List (Int × ByteArray × Unit)) (x8_2 : Int) (x8_3 : Int) (x9_0 : List ByteArray) (x9_1 : List (Int × ByteArray × Unit)) (x9_2 : Int) (x9_3 : Int) (x10 : Int) : F9c10 (k + 1) x3_0 x3_1 x3_2 x3_3 x5 x7_0 x7_1 x7_2 x7_3 x8_0 x8_1 x8_2 x8_3 x9_0 x9_1 x9_2 x9_3 x10 =
    if (decide (x10 < (42 : Int))) = true then if (decide (0 ≤ x10)) = true then (x8_0[x10.toNat]?).bind fun y14 => if (decide (0 ≤ x10)) = true then (x3_0[x10.toNat]?).bind fun y15 => if (!(y14.toList == y15.toList)) = true then some ((false, ()), ((), ())) else if (decide (0 ≤ x10)) = true then (x9_0[x10.toNat]?).bind fun y16 => (F33 k x3_0 x3_1 x3_2 x3_3 x10).bind fun r17 => if (!(y16.toList == r17.1.1.toList)) = true then some ((false, ()), ((), ())) else if (decide (0 ≤ x10)) = true then (x7_0[x10.toNat]?).bind fun y18 => if (decide (0 ≤ x10)) = true then (x3_0[x10.toNat]?).bind fun y19 => F9c16 k x3_0 x3_1 x3_2 x3_3 x5 x7_0 x7_1 x7_2 x7_3 x8_0 x8_1 x8_2 x8_3 x9_0 x9_1 x9_2 x9_3 x10 (y18.toList == y19.toList) (0 : Int) x9_0 x10 y16 x3_0 x3_1 x3_2 x3_3 x10 r17.1.1 (!(y16.toList == r17.1.1.toList)) else none else none else none else none else none else (F31 k x7_0 x7_1 x7_2 x7_3).bind fun r20 => if r20.1.1 = true then if ((x7_1.length : Int) == (0 : Int)) = true then if (x7_2 == (-1 : Int)) = true then some (((x7_3 == (-1 : Int)), ()), ((), ())) else some ((false, ()), ((), ())) else some ((false, ()), ((), ())) else some ((false, ()), ((), ())) := by kernel_rfl
theorem F9c16_eq (k : Nat) (x3_0 : List ByteArray) (x3_1 : List (Int × ByteArray × Unit)) (x3_2 : Int) (x3_3 : Int) (x5 : Int) (x7_0 : List ByteArray) (x7_1 : List (Int × ByteArray × Unit)) (x7_2 : Int) (x7_3 : Int) (x8_0 : List ByteArray) (x8_1 : List (Int × ByteArray × Unit)) (x8_2 : Int) (x8_3 : Int) (x9_0 : List ByteArray) (x9_1 : List (Int × ByteArray × Unit)) (x9_2 : Int) (x9_3 : Int) (x10 : Int) (x11 : Bool) (x12 : Int) (x73 : List ByteArray) (x74 : Int) (x76 : ByteArray) (x77_0 : List ByteArray) (x77_1 : List (Int × ByteArray × Unit)) (x77_2 : Int) (x77_3 : Int) (x78 : Int) (x79 : ByteArray) (x80 : Bool) : F9c16 (k + 1) x3_0 x3_1 x3_2 x3_3 x5 x7_0 x7_1 x7_2 x7_3 x8_0 x8_1 x8_2 x8_3 x9_0 x9_1 x9_2 x9_3 x10 x11 x12 x73 x74 x76 x77_0 x77_1 x77_2 x77_3 x78 x79 x80 =
    if (decide (x12 < (x3_1.length : Int))) = true then if (decide (0 ≤ x12)) = true then (x3_1[x12.toNat]?).bind fun y21 => if (y21.1 == x10) = true then if (decide (0 ≤ x12)) = true then (x3_1[x12.toNat]?).bind fun y22 => if (decide (0 ≤ x10)) = true then (x7_0[x10.toNat]?).bind fun y23 => if (y22.2.1.toList == y23.toList) = true then F9c17 k x3_0 x3_1 x3_2 x3_3 x5 x7_0 x7_1 x7_2 x7_3 x8_0 x8_1 x8_2 x8_3 x9_0 x9_1 x9_2 x9_3 x10 true x12 x73 x74 x76 x77_0 x77_1 x77_2 x77_3 x78 x79 x80 else if (x12 == x5) = true then F9c17 k x3_0 x3_1 x3_2 x3_3 x5 x7_0 x7_1 x7_2 x7_3 x8_0 x8_1 x8_2 x8_3 x9_0 x9_1 x9_2 x9_3 x10 true x12 x73 x74 x76 x77_0 x77_1 x77_2 x77_3 x78 x79 x80 else F9c17 k x3_0 x3_1 x3_2 x3_3 x5 x7_0 x7_1 x7_2 x7_3 x8_0 x8_1 x8_2 x8_3 x9_0 x9_1 x9_2 x9_3 x10 x11 x12 x73 x74 x76 x77_0 x77_1 x77_2 x77_3 x78 x79 x80 else none else none else F9c17 k x3_0 x3_1 x3_2 x3_3 x5 x7_0 x7_1 x7_2 x7_3 x8_0 x8_1 x8_2 x8_3 x9_0 x9_1 x9_2 x9_3 x10 x11 x12 x73 x74 x76 x77_0 x77_1 x77_2 x77_3 x78 x79 x80 else none else if (!x11) = true then some ((false, ()), ((), ())) else F9c10 k x3_0 x3_1 x3_2 x3_3 x5 x7_0 x7_1 x7_2 x7_3 x8_0 x8_1 x8_2 x8_3 x9_0 x9_1 x9_2 x9_3 (IntKind.i64.wrap (x10 + (1 : Int))) := by kernel_rfl
theorem F9c17_eq (k : Nat) (x3_0 : List ByteArray) (x3_1 : List (Int × ByteArray × Unit)) (x3_2 : Int) (x3_3 : Int) (x5 : Int) (x7_0 : List ByteArray) (x7_1 : List (Int × ByteArray × Unit)) (x7_2 : Int) (x7_3 : Int) (x8_0 : List ByteArray) (x8_1 : List (Int × ByteArray × Unit)) (x8_2 : Int) (x8_3 : Int) (x9_0 : List ByteArray) (x9_1 : List (Int × ByteArray × Unit)) (x9_2 : Int) (x9_3 : Int) (x10 : Int) (x11 : Bool) (x12 : Int) (x73 : List ByteArray) (x74 : Int) (x76 : ByteArray) (x77_0 : List ByteArray) (x77_1 : List (Int × ByteArray × Unit)) (x77_2 : Int) (x77_3 : Int) (x78 : Int) (x79 : ByteArray) (x80 : Bool) : F9c17 (k + 1) x3_0 x3_1 x3_2 x3_3 x5 x7_0 x7_1 x7_2 x7_3 x8_0 x8_1 x8_2 x8_3 x9_0 x9_1 x9_2 x9_3 x10 x11 x12 x73 x74 x76 x77_0 x77_1 x77_2 x77_3 x78 x79 x80 =
    F9c16 k x3_0 x3_1 x3_2 x3_3 x5 x7_0 x7_1 x7_2 x7_3 x8_0 x8_1 x8_2 x8_3 x9_0 x9_1 x9_2 x9_3 x10 x11 (IntKind.i64.wrap (x12 + (1 : Int))) x73 x74 x76 x77_0 x77_1 x77_2 x77_3 x78 x79 x80 := by kernel_rfl
theorem F18_eq (k : Nat) : F18 (k + 2) =
    if (decide (0 ≤ (42 : Int)) && decide ((42 : Int) ≤ (42 : Int)) && decide ((42 : Int) ≤ (8796093022208 : Int))) = true then some (((List.replicate 42 ByteArray.empty, ([] : List (Int × ByteArray × Unit)), (-1 : Int), (-1 : Int), ()), ()), ()) else none := by kernel_rfl
theorem F29_eq (k : Nat) (a0_0 : List ByteArray) (a0_1 : List (Int × ByteArray × Unit)) (a0_2 : Int) (a0_3 : Int) : F29 (k + 2) a0_0 a0_1 a0_2 a0_3 =
    (F65 k a0_0 a0_1 a0_2 a0_3).bind fun r1 => some ((r1.1.1, ()), (((), (), (), (), ()), ())) := by kernel_rfl
theorem F31_eq (k : Nat) (a0_0 : List ByteArray) (a0_1 : List (Int × ByteArray × Unit)) (a0_2 : Int) (a0_3 : Int) : F31 (k + 2) a0_0 a0_1 a0_2 a0_3 =
    if ((a0_0.length : Int) == (42 : Int)) = true then (F70068 k a0_0).bind fun r1 => if (!r1.1.1) = true then if (decide ((a0_1.length : Int) ≤ (100 : Int))) = true then (F72070 k a0_1).bind fun r2 => if (!r2.1.1) = true then if (decide (a0_2 ≥ (-1 : Int))) = true then some ((decide (a0_3 ≥ (-1 : Int)), ()), (((), (), (), (), ()), ())) else some ((false, ()), (((), (), (), (), ()), ())) else some ((false, ()), (((), (), (), (), ()), ())) else some ((false, ()), (((), (), (), (), ()), ())) else some ((false, ()), (((), (), (), (), ()), ())) else some ((false, ()), (((), (), (), (), ()), ())) := by kernel_rfl
theorem F33_eq (k : Nat) (a0_0 : List ByteArray) (a0_1 : List (Int × ByteArray × Unit)) (a0_2 : Int) (a0_3 : Int) (a1 : Int) : F33 (k + 1) a0_0 a0_1 a0_2 a0_3 a1 = diskreadR ((a0_0, a0_1, a0_2, a0_3, ()), a1, ()) := by kernel_rfl
theorem F34_eq (k : Nat) (a0 : List Int) : F34 (k + 2) a0 =
    (F51 k a0).bind fun r1 => (F76 k r1.1.1.1 r1.1.1.2.1).bind fun r2 => (F78 k r2.2.1.1 r2.2.1.2.1).bind fun r3 => (F78 k r3.2.1.1 r3.2.1.2.1).bind fun r4 => (F78 k r4.2.1.1 r4.2.1.2.1).bind fun r5 => (F77 k r5.2.1.1 r5.2.1.2.1 [r3.1.1, r4.1.1, r5.1.1, (-1 : Int)]).bind fun r6 => (F79 k r6.2.1.1 r6.2.1.2.1 (8 : Int)).bind fun r7 => (F79 k r7.2.1.1 r7.2.1.2.1 (30 : Int)).bind fun r8 => (F77 k r8.2.1.1 r8.2.1.2.1 [(-1 : Int), (0 : Int), (1 : Int), (2 : Int), (3 : Int), (5 : Int), (8 : Int), (100 : Int), r8.1.1]).bind fun r9 => some (((r2.1.1.1, r2.1.1.2.1, r2.1.1.2.2.1, r2.1.1.2.2.2.1, ()), r6.1.1, (IntKind.i64.wrap (r7.1.1 - (1 : Int))), r9.1.1, ()), ((), ())) := by kernel_rfl
theorem F35_eq (k : Nat) (a0_0 : List ByteArray) (a0_1 : List (Int × ByteArray × Unit)) (a0_2 : Int) (a0_3 : Int) (a1 : Int) (a2 : Int) (a3 : Int) : F35 (k + 2) a0_0 a0_1 a0_2 a0_3 a1 a2 a3 =
    (F31 k a0_0 a0_1 a0_2 a0_3).bind fun r1 => if (!r1.1.1) = true then some (((([] : List ByteArray), ([] : List (Int × ByteArray × Unit)), (0 : Int), (0 : Int), ()), ()), (((), (), (), (), ()), (), (), (), ())) else if (decide (a1 < (0 : Int))) = true then some (((([] : List ByteArray), ([] : List (Int × ByteArray × Unit)), (0 : Int), (0 : Int), ()), ()), (((), (), (), (), ()), (), (), (), ())) else (F80 k a0_0).bind fun r2 => F35c5 k a1 a2 a3 ([] : List ByteArray) ([] : List (Int × ByteArray × Unit)) (0 : Int) (0 : Int) r2.1.1 ([] : List (Int × ByteArray × Unit)) (-1 : Int) (-1 : Int) a0_1 (a0_1.length : Int) (0 : Int) := by kernel_rfl
theorem F35c5_eq (k : Nat) (x1 : Int) (x2 : Int) (x3 : Int) (x8_0 : List ByteArray) (x8_1 : List (Int × ByteArray × Unit)) (x8_2 : Int) (x8_3 : Int) (x9_0 : List ByteArray) (x9_1 : List (Int × ByteArray × Unit)) (x9_2 : Int) (x9_3 : Int) (x25 : List (Int × ByteArray × Unit)) (x26 : Int) (x27 : Int) : F35c5 (k + 1) x1 x2 x3 x8_0 x8_1 x8_2 x8_3 x9_0 x9_1 x9_2 x9_3 x25 x26 x27 =
    if (decide (x27 < x26)) = true then if (decide (0 ≤ x27)) = true then (x25[x27.toNat]?).bind fun y3 => if (decide (0 ≤ (x27.tmod (60 : Int)))) = true then if ((IntKind.i64.wrap (((BitVec.ofInt IntKind.i64.bits (x1.fdiv (2 ^ min (x27.tmod (60 : Int)).toNat IntKind.i64.bits)) &&& BitVec.ofInt IntKind.i64.bits (1 : Int)).toNat : Int))) == (1 : Int)) = true then if (decide (0 ≤ y3.1) && decide (y3.1 < (x9_0.length : Int))) = true then (x9_0[y3.1.toNat]?).bind fun y4 => F35c11 k x1 x2 x3 x8_0 x8_1 x8_2 x8_3 (x9_0.set y3.1.toNat y3.2.1) x9_1 x9_2 x9_3 x25 x26 x27 else none else if (x27 == x2) = true then if (decide (0 ≤ y3.1) && decide (y3.1 < (x9_0.length : Int))) = true then (x9_0[y3.1.toNat]?).bind fun y5 => (F81 k y5 y3.2.1 x3).bind fun r6 => if (decide (0 ≤ y3.1) && decide (y3.1 < (x9_0.length : Int))) = true then (x9_0[y3.1.toNat]?).bind fun y7 => F35c11 k x1 x2 x3 x8_0 x8_1 x8_2 x8_3 (x9_0.set y3.1.toNat r6.1.1) x9_1 x9_2 x9_3 x25 x26 x27 else none else none else F35c11 k x1 x2 x3 x8_0 x8_1 x8_2 x8_3 x9_0 x9_1 x9_2 x9_3 x25 x26 x27 else none else none else some (((x9_0, x9_1, x9_2, x9_3, ()), ()), (((), (), (), (), ()), (), (), (), ())) := by kernel_rfl
theorem F35c11_eq (k : Nat) (x1 : Int) (x2 : Int) (x3 : Int) (x8_0 : List ByteArray) (x8_1 : List (Int × ByteArray × Unit)) (x8_2 : Int) (x8_3 : Int) (x9_0 : List ByteArray) (x9_1 : List (Int × ByteArray × Unit)) (x9_2 : Int) (x9_3 : Int) (x25 : List (Int × ByteArray × Unit)) (x26 : Int) (x27 : Int) : F35c11 (k + 1) x1 x2 x3 x8_0 x8_1 x8_2 x8_3 x9_0 x9_1 x9_2 x9_3 x25 x26 x27 =
    F35c5 k x1 x2 x3 x8_0 x8_1 x8_2 x8_3 x9_0 x9_1 x9_2 x9_3 x25 x26 (IntKind.i64.wrap (x27 + (1 : Int))) := by kernel_rfl
theorem F36_eq (k : Nat) (a0_0 : List ByteArray) (a0_1 : List (Int × ByteArray × Unit)) (a0_2 : Int) (a0_3 : Int) (a1_0 : List ByteArray) (a1_1 : List (Int × ByteArray × Unit)) (a1_2 : Int) (a1_3 : Int) : F36 (k + 2) a0_0 a0_1 a0_2 a0_3 a1_0 a1_1 a1_2 a1_3 =
    (F82 k a0_0 a1_0).bind fun r1 => if r1.1.1 = true then (F83 k a0_1 a1_1).bind fun r2 => if r2.1.1 = true then if (a0_2 == a1_2) = true then some (((a0_3 == a1_3), ()), (((), (), (), (), ()), ((), (), (), (), ()), ())) else some ((false, ()), (((), (), (), (), ()), ((), (), (), (), ()), ())) else some ((false, ()), (((), (), (), (), ()), ((), (), (), (), ()), ())) else some ((false, ()), (((), (), (), (), ()), ((), (), (), (), ()), ())) := by kernel_rfl
theorem F37_eq (k : Nat) (a0_0 : List ByteArray) (a0_1 : List (Int × ByteArray × Unit)) (a0_2 : Int) (a0_3 : Int) (a1 : Int) (a2 : Int) (a3 : Int) : F37 (k + 2) a0_0 a0_1 a0_2 a0_3 a1 a2 a3 =
    (F65 k a0_0 a0_1 a0_2 a0_3).bind fun r1 => if (!r1.1.1) = true then some (((([] : List ByteArray), ([] : List (Int × ByteArray × Unit)), (0 : Int), (0 : Int), ()), ()), (((), (), (), (), ()), (), (), (), ())) else if (decide (a1 < (0 : Int))) = true then some (((([] : List ByteArray), ([] : List (Int × ByteArray × Unit)), (0 : Int), (0 : Int), ()), ()), (((), (), (), (), ()), (), (), (), ())) else (F84 k a0_0 a0_1 a0_2 a0_3).bind fun r2 => F37c5 k a1 a2 a3 a0_0 a0_1 a0_2 a0_3 ([] : List ByteArray) ([] : List (Int × ByteArray × Unit)) (0 : Int) (0 : Int) r2.1.1.1 r2.1.1.2.1 r2.1.1.2.2.1 r2.1.1.2.2.2.1 (0 : Int) := by kernel_rfl
theorem F37c5_eq (k : Nat) (x1 : Int) (x2 : Int) (x3 : Int) (x4_0 : List ByteArray) (x4_1 : List (Int × ByteArray × Unit)) (x4_2 : Int) (x4_3 : Int) (x8_0 : List ByteArray) (x8_1 : List (Int × ByteArray × Unit)) (x8_2 : Int) (x8_3 : Int) (x9_0 : List ByteArray) (x9_1 : List (Int × ByteArray × Unit)) (x9_2 : Int) (x9_3 : Int) (x10 : Int) : F37c5 (k + 1) x1 x2 x3 x4_0 x4_1 x4_2 x4_3 x8_0 x8_1 x8_2 x8_3 x9_0 x9_1 x9_2 x9_3 x10 =
    if (decide (x10 < (x4_1.length : Int))) = true then if (decide (0 ≤ x10)) = true then (x4_1[x10.toNat]?).bind fun y3 => (F85 k x1 x10).bind fun r4 => if r4.1.1 = true then if (decide (0 ≤ y3.1) && decide (y3.1 < (x9_0.length : Int))) = true then (x9_0[y3.1.toNat]?).bind fun y5 => F37c6 k x1 x2 x3 x4_0 x4_1 x4_2 x4_3 x8_0 x8_1 x8_2 x8_3 (x9_0.set y3.1.toNat y3.2.1) x9_1 x9_2 x9_3 x10 else none else if (x10 == x2) = true then if (decide (0 ≤ y3.1) && decide (y3.1 < (x9_0.length : Int))) = true then (x9_0[y3.1.toNat]?).bind fun y6 => (F86 k y3.2.1 y6 x3).bind fun r7 => if (decide (0 ≤ y3.1) && decide (y3.1 < (x9_0.length : Int))) = true then (x9_0[y3.1.toNat]?).bind fun y8 => F37c6 k x1 x2 x3 x4_0 x4_1 x4_2 x4_3 x8_0 x8_1 x8_2 x8_3 (x9_0.set y3.1.toNat r7.1.1) x9_1 x9_2 x9_3 x10 else none else none else F37c6 k x1 x2 x3 x4_0 x4_1 x4_2 x4_3 x8_0 x8_1 x8_2 x8_3 x9_0 x9_1 x9_2 x9_3 x10 else none else some (((x9_0, ([] : List (Int × ByteArray × Unit)), (-1 : Int), (-1 : Int), ()), ()), (((), (), (), (), ()), (), (), (), ())) := by kernel_rfl
theorem F37c6_eq (k : Nat) (x1 : Int) (x2 : Int) (x3 : Int) (x4_0 : List ByteArray) (x4_1 : List (Int × ByteArray × Unit)) (x4_2 : Int) (x4_3 : Int) (x8_0 : List ByteArray) (x8_1 : List (Int × ByteArray × Unit)) (x8_2 : Int) (x8_3 : Int) (x9_0 : List ByteArray) (x9_1 : List (Int × ByteArray × Unit)) (x9_2 : Int) (x9_3 : Int) (x10 : Int) : F37c6 (k + 1) x1 x2 x3 x4_0 x4_1 x4_2 x4_3 x8_0 x8_1 x8_2 x8_3 x9_0 x9_1 x9_2 x9_3 x10 =
    F37c5 k x1 x2 x3 x4_0 x4_1 x4_2 x4_3 x8_0 x8_1 x8_2 x8_3 x9_0 x9_1 x9_2 x9_3 (IntKind.i64.wrap (x10 + (1 : Int))) := by kernel_rfl
theorem F51_eq (k : Nat) (a0 : List Int) : F51 (k + 2) a0 =
    if (decide ((a0.length : Int) > (2000 : Int))) = true then if (decide (0 ≤ (2000 : Int)) && decide ((2000 : Int) ≤ (a0.length : Int))) = true then F51c3 k (slices a0 0 2000) else none else F51c3 k a0 := by kernel_rfl
theorem F51c3_eq (k : Nat) (x0 : List Int) : F51c3 (k + 1) x0 =
    some (((x0, (0 : Int), ()), ()), ((), ())) := by kernel_rfl
theorem F52_eq (k : Nat) (a0_0 : List Int) (a0_1 : Int) (a1 : List ByteArray) : F52 (k + 2) a0_0 a0_1 a1 =
    (F79 k a0_0 a0_1 (a1.length : Int)).bind fun r1 => if (decide (0 ≤ r1.1.1) && decide (r1.1.1 < (a1.length : Int))) = true then (a1[r1.1.1.toNat]?).bind fun y2 => some ((y2, ()), ((r1.2.1.1, r1.2.1.2.1, ()), (), ())) else none := by kernel_rfl
theorem F65_eq (k : Nat) (a0_0 : List ByteArray) (a0_1 : List (Int × ByteArray × Unit)) (a0_2 : Int) (a0_3 : Int) : F65 (k + 2) a0_0 a0_1 a0_2 a0_3 =
    if ((a0_0.length : Int) != (42 : Int)) = true then some ((false, ()), (((), (), (), (), ()), ())) else if (decide ((a0_1.length : Int) > (100 : Int))) = true then some ((false, ()), (((), (), (), (), ()), ())) else if (decide (a0_2 < (-1 : Int))) = true then some ((false, ()), (((), (), (), (), ()), ())) else if (decide (a0_3 < (-1 : Int))) = true then some ((false, ()), (((), (), (), (), ()), ())) else F65c4 k a0_0 a0_1 a0_2 a0_3 (0 : Int) := by kernel_rfl
theorem F65c4_eq (k : Nat) (x1_0 : List ByteArray) (x1_1 : List (Int × ByteArray × Unit)) (x1_2 : Int) (x1_3 : Int) (x3 : Int) : F65c4 (k + 1) x1_0 x1_1 x1_2 x1_3 x3 =
    if (decide (x3 < (x1_0.length : Int))) = true then if (decide (0 ≤ x3)) = true then (x1_0[x3.toNat]?).bind fun y1 => if (decide ((y1.size : Int) > (1200 : Int))) = true then some ((false, ()), (((), (), (), (), ()), ())) else F65c4 k x1_0 x1_1 x1_2 x1_3 (IntKind.i64.wrap (x3 + (1 : Int))) else none else F65c9 k x1_0 x1_1 x1_2 x1_3 (0 : Int) := by kernel_rfl
theorem F65c9_eq (k : Nat) (x1_0 : List ByteArray) (x1_1 : List (Int × ByteArray × Unit)) (x1_2 : Int) (x1_3 : Int) (x4 : Int) : F65c9 (k + 1) x1_0 x1_1 x1_2 x1_3 x4 =
    if (decide (x4 < (x1_1.length : Int))) = true then if (decide (0 ≤ x4)) = true then (x1_1[x4.toNat]?).bind fun y2 => (F102 k y2.1 y2.2.1).bind fun r3 => if (!r3.1.1) = true then some ((false, ()), (((), (), (), (), ()), ())) else F65c9 k x1_0 x1_1 x1_2 x1_3 (IntKind.i64.wrap (x4 + (1 : Int))) else none else some ((true, ()), (((), (), (), (), ()), ())) := by kernel_rfl
theorem F69_eq (k : Nat) (a0 : ByteArray) : F69 (k + 2) a0 =
    some ((decide ((a0.size : Int) > (1200 : Int)), ()), ((), ())) := by kernel_rfl
theorem F71_eq (k : Nat) (a0_0 : Int) (a0_1 : ByteArray) : F71 (k + 2) a0_0 a0_1 =
    (F72 k a0_0).bind fun r1 => if (!r1.1.1) = true then some ((true, ()), (((), (), ()), ())) else some ((decide ((a0_1.size : Int) > (1200 : Int)), ()), (((), (), ()), ())) := by kernel_rfl
theorem F72_eq (k : Nat) (a0 : Int) : F72 (k + 2) a0 =
    (F106 k a0 (0 : Int) (41 : Int)).bind fun r1 => some ((r1.1.1, ()), ((), ())) := by kernel_rfl
theorem F73_eq (k : Nat) (a0 : Int) (a1 : Int) (a2 : Int) : F73 (k + 2) a0 a1 a2 =
    if (decide (a0 ≥ a1)) = true then some ((decide (a0 ≤ a2), ()), ((), (), (), ())) else some ((false, ()), ((), (), (), ())) := by kernel_rfl
theorem F76_eq (k : Nat) (a0_0 : List Int) (a0_1 : Int) : F76 (k + 2) a0_0 a0_1 =
    (F108 k a0_0 a0_1).bind fun r1 => (F79 k r1.2.1.1 r1.2.1.2.1 (24 : Int)).bind fun r2 => if (r2.1.1 == (0 : Int)) = true then if (decide (0 ≤ (1 : Int)) && decide ((1 : Int) ≤ (r1.1.1.1.length : Int))) = true then F76c16 k r2.2.1.1 r2.2.1.2.1 ([] : List ByteArray) ([] : List (Int × ByteArray × Unit)) (0 : Int) (0 : Int) (slices r1.1.1.1 1 r1.1.1.1.length) r1.1.1.2.1 r1.1.1.2.2.1 r1.1.1.2.2.2.1 else none else if (r2.1.1 == (1 : Int)) = true then F76c16 k r2.2.1.1 r2.2.1.2.1 ([] : List ByteArray) ([] : List (Int × ByteArray × Unit)) (0 : Int) (0 : Int) r1.1.1.1 r1.1.1.2.1 (-2 : Int) r1.1.1.2.2.2.1 else if (r2.1.1 == (2 : Int)) = true then (F77 k r2.2.1.1 r2.2.1.2.1 [(-1 : Int), (42 : Int)]).bind fun r3 => if (decide (r1.1.1.2.1.length + [(r3.1.1, (ByteArray.empty, ()))].length ≤ 5864062014805)) = true then F76c16 k r3.2.1.1 r3.2.1.2.1 ([] : List ByteArray) ([] : List (Int × ByteArray × Unit)) (0 : Int) (0 : Int) r1.1.1.1 (r1.1.1.2.1 ++ [(r3.1.1, (ByteArray.empty, ()))]) r1.1.1.2.2.1 r1.1.1.2.2.2.1 else none else if (r2.1.1 == (3 : Int)) = true then (F109 k (⟨#[99]⟩ : ByteArray) (1201 : Int)).bind fun r4 => if (decide (0 ≤ (0 : Int)) && decide ((0 : Int) < (r1.1.1.1.length : Int))) = true then (r1.1.1.1[0]?).bind fun y5 => F76c16 k r2.2.1.1 r2.2.1.2.1 ([] : List ByteArray) ([] : List (Int × ByteArray × Unit)) (0 : Int) (0 : Int) (r1.1.1.1.set 0 r4.1.1) r1.1.1.2.1 r1.1.1.2.2.1 r1.1.1.2.2.2.1 else none else if (r2.1.1 == (4 : Int)) = true then F76c16 k r2.2.1.1 r2.2.1.2.1 ([] : List ByteArray) ([] : List (Int × ByteArray × Unit)) (0 : Int) (0 : Int) r1.1.1.1 r1.1.1.2.1 r1.1.1.2.2.1 (-2 : Int) else if (r2.1.1 == (5 : Int)) = true then F76c14 k r2.2.1.1 r2.2.1.2.1 ([] : List ByteArray) ([] : List (Int × ByteArray × Unit)) (0 : Int) (0 : Int) r1.1.1.1 r1.1.1.2.1 r1.1.1.2.2.1 r1.1.1.2.2.2.1 else F76c16 k r2.2.1.1 r2.2.1.2.1 ([] : List ByteArray) ([] : List (Int × ByteArray × Unit)) (0 : Int) (0 : Int) r1.1.1.1 r1.1.1.2.1 r1.1.1.2.2.1 r1.1.1.2.2.2.1 := by kernel_rfl
theorem F76c16_eq (k : Nat) (x0_0 : List Int) (x0_1 : Int) (x2_0 : List ByteArray) (x2_1 : List (Int × ByteArray × Unit)) (x2_2 : Int) (x2_3 : Int) (x3_0 : List ByteArray) (x3_1 : List (Int × ByteArray × Unit)) (x3_2 : Int) (x3_3 : Int) : F76c16 (k + 1) x0_0 x0_1 x2_0 x2_1 x2_2 x2_3 x3_0 x3_1 x3_2 x3_3 =
    some (((x3_0, x3_1, x3_2, x3_3, ()), ()), ((x0_0, x0_1, ()), ())) := by kernel_rfl
theorem F76c14_eq (k : Nat) (x0_0 : List Int) (x0_1 : Int) (x2_0 : List ByteArray) (x2_1 : List (Int × ByteArray × Unit)) (x2_2 : Int) (x2_3 : Int) (x3_0 : List ByteArray) (x3_1 : List (Int × ByteArray × Unit)) (x3_2 : Int) (x3_3 : Int) : F76c14 (k + 1) x0_0 x0_1 x2_0 x2_1 x2_2 x2_3 x3_0 x3_1 x3_2 x3_3 =
    (F79 k x0_0 x0_1 (2 : Int)).bind fun r6 => if (decide ((x3_1.length : Int) < (IntKind.i64.wrap ((100 : Int) + r6.1.1)))) = true then if (decide (x3_1.length + [((5 : Int), ((⟨#[119]⟩ : ByteArray), ()))].length ≤ 5864062014805)) = true then F76c14 k r6.2.1.1 r6.2.1.2.1 x2_0 x2_1 x2_2 x2_3 x3_0 (x3_1 ++ [((5 : Int), ((⟨#[119]⟩ : ByteArray), ()))]) x3_2 x3_3 else none else F76c16 k r6.2.1.1 r6.2.1.2.1 x2_0 x2_1 x2_2 x2_3 x3_0 x3_1 x3_2 x3_3 := by kernel_rfl
theorem F77_eq (k : Nat) (a0_0 : List Int) (a0_1 : Int) (a1 : List Int) : F77 (k + 2) a0_0 a0_1 a1 =
    (F79 k a0_0 a0_1 (a1.length : Int)).bind fun r1 => if (decide (0 ≤ r1.1.1) && decide (r1.1.1 < (a1.length : Int))) = true then (a1[r1.1.1.toNat]?).bind fun y2 => some ((y2, ()), ((r1.2.1.1, r1.2.1.2.1, ()), (), ())) else none := by kernel_rfl
theorem F78_eq (k : Nat) (a0_0 : List Int) (a0_1 : Int) : F78 (k + 2) a0_0 a0_1 =
    (F79 k a0_0 a0_1 (256 : Int)).bind fun r1 => (F79 k r1.2.1.1 r1.2.1.2.1 (256 : Int)).bind fun r2 => (F79 k r2.2.1.1 r2.2.1.2.1 (256 : Int)).bind fun r3 => (F77 k r3.2.1.1 r3.2.1.2.1 [(0 : Int), (1 : Int), (2 : Int), (3 : Int), (4 : Int), (5 : Int), (6 : Int), (7 : Int), (8 : Int), (1099511627776 : Int), (1152921504606846975 : Int), r1.1.1, (IntKind.i64.wrap ((IntKind.i64.wrap (r2.1.1 * (256 : Int))) + r3.1.1))]).bind fun r4 => some ((r4.1.1, ()), ((r4.2.1.1, r4.2.1.2.1, ()), ())) := by kernel_rfl
theorem F79_eq (k : Nat) (a0_0 : List Int) (a0_1 : Int) (a1 : Int) : F79 (k + 2) a0_0 a0_1 a1 =
    if (decide (a1 < (1 : Int))) = true then some (((0 : Int), ()), ((a0_0, (IntKind.i64.wrap (a0_1 + (1 : Int))), ()), (), ())) else if ((a0_0.length : Int) == (0 : Int)) = true then some (((0 : Int), ()), ((a0_0, (IntKind.i64.wrap (a0_1 + (1 : Int))), ()), (), ())) else if (decide ((IntKind.i64.wrap ((IntKind.i64.wrap (a0_1 + (1 : Int))) - (1 : Int))) < (a0_0.length : Int))) = true then if (decide (0 ≤ (IntKind.i64.wrap ((IntKind.i64.wrap (a0_1 + (1 : Int))) - (1 : Int))))) = true then (a0_0[(IntKind.i64.wrap ((IntKind.i64.wrap (a0_1 + (1 : Int))) - (1 : Int))).toNat]?).bind fun y1 => if (!(a1 == 0)) = true then some ((((IntKind.i64.wrap y1).tmod a1), ()), ((a0_0, (IntKind.i64.wrap (a0_1 + (1 : Int))), ()), (), ())) else none else none else if (!((a0_0.length : Int) == 0)) = true then if (decide (0 ≤ ((IntKind.i64.wrap ((IntKind.i64.wrap (a0_1 + (1 : Int))) - (1 : Int))).tmod (a0_0.length : Int)))) = true then (a0_0[((IntKind.i64.wrap ((IntKind.i64.wrap (a0_1 + (1 : Int))) - (1 : Int))).tmod (a0_0.length : Int)).toNat]?).bind fun y2 => if (!((a0_0.length : Int) == 0)) = true then if (decide (0 ≤ ((IntKind.i64.wrap ((IntKind.i64.wrap ((IntKind.i64.wrap ((IntKind.i64.wrap (a0_1 + (1 : Int))) - (1 : Int))) * (7 : Int))) + (3 : Int))).tmod (a0_0.length : Int)))) = true then (a0_0[((IntKind.i64.wrap ((IntKind.i64.wrap ((IntKind.i64.wrap ((IntKind.i64.wrap (a0_1 + (1 : Int))) - (1 : Int))) * (7 : Int))) + (3 : Int))).tmod (a0_0.length : Int)).toNat]?).bind fun y3 => if (!((a0_0.length : Int) == 0)) = true then if (!(a1 == 0)) = true then some ((((IntKind.i64.wrap (((BitVec.ofInt IntKind.i64.bits (IntKind.i64.wrap ((IntKind.i64.wrap ((IntKind.i64.wrap ((IntKind.i64.wrap ((IntKind.i64.wrap y2) * (131 : Int))) + (IntKind.i64.wrap ((IntKind.i64.wrap y3) * (1117 : Int))))) + (IntKind.i64.wrap ((IntKind.i64.wrap ((IntKind.i64.wrap (a0_1 + (1 : Int))) - (1 : Int))) * (29 : Int))))) + (IntKind.i64.wrap ((IntKind.i64.wrap ((IntKind.i64.wrap ((IntKind.i64.wrap (a0_1 + (1 : Int))) - (1 : Int))).tdiv (a0_0.length : Int))) * (53 : Int))))) ^^^ BitVec.ofInt IntKind.i64.bits (IntKind.i64.wrap ((IntKind.i64.wrap ((IntKind.i64.wrap ((IntKind.i64.wrap ((IntKind.i64.wrap ((IntKind.i64.wrap y2) * (131 : Int))) + (IntKind.i64.wrap ((IntKind.i64.wrap y3) * (1117 : Int))))) + (IntKind.i64.wrap ((IntKind.i64.wrap ((IntKind.i64.wrap (a0_1 + (1 : Int))) - (1 : Int))) * (29 : Int))))) + (IntKind.i64.wrap ((IntKind.i64.wrap ((IntKind.i64.wrap ((IntKind.i64.wrap (a0_1 + (1 : Int))) - (1 : Int))).tdiv (a0_0.length : Int))) * (53 : Int))))).tdiv (64 : Int)))).toNat : Int))).tmod a1), ()), ((a0_0, (IntKind.i64.wrap (a0_1 + (1 : Int))), ()), (), ())) else none else none else none else none else none else none := by kernel_rfl
theorem F80_eq (k : Nat) (a0 : List ByteArray) : F80 (k + 2) a0 =
    (F111 k a0).bind fun r1 => (F110 k r1.1.1).bind fun r2 => some ((r2.1.1, ()), ((), ())) := by kernel_rfl
theorem F81_eq (k : Nat) (a0 : ByteArray) (a1 : ByteArray) (a2 : Int) : F81 (k + 2) a0 a1 a2 =
    if (decide ((a0.size : Int) > (if (if (IntKind.i64.wrap ((a1.size : Int) - (1 : Int))) < a2 then (IntKind.i64.wrap ((a1.size : Int) - (1 : Int))) else a2) > (0 : Int) then (if (IntKind.i64.wrap ((a1.size : Int) - (1 : Int))) < a2 then (IntKind.i64.wrap ((a1.size : Int) - (1 : Int))) else a2) else (0 : Int)))) = true then if (decide (0 ≤ (if (if (IntKind.i64.wrap ((a1.size : Int) - (1 : Int))) < a2 then (IntKind.i64.wrap ((a1.size : Int) - (1 : Int))) else a2) > (0 : Int) then (if (IntKind.i64.wrap ((a1.size : Int) - (1 : Int))) < a2 then (IntKind.i64.wrap ((a1.size : Int) - (1 : Int))) else a2) else (0 : Int))) && decide ((if (if (IntKind.i64.wrap ((a1.size : Int) - (1 : Int))) < a2 then (IntKind.i64.wrap ((a1.size : Int) - (1 : Int))) else a2) > (0 : Int) then (if (IntKind.i64.wrap ((a1.size : Int) - (1 : Int))) < a2 then (IntKind.i64.wrap ((a1.size : Int) - (1 : Int))) else a2) else (0 : Int)) ≤ (a1.size : Int))) = true then if (decide (0 ≤ (if (if (IntKind.i64.wrap ((a1.size : Int) - (1 : Int))) < a2 then (IntKind.i64.wrap ((a1.size : Int) - (1 : Int))) else a2) > (0 : Int) then (if (IntKind.i64.wrap ((a1.size : Int) - (1 : Int))) < a2 then (IntKind.i64.wrap ((a1.size : Int) - (1 : Int))) else a2) else (0 : Int))) && decide ((if (if (IntKind.i64.wrap ((a1.size : Int) - (1 : Int))) < a2 then (IntKind.i64.wrap ((a1.size : Int) - (1 : Int))) else a2) > (0 : Int) then (if (IntKind.i64.wrap ((a1.size : Int) - (1 : Int))) < a2 then (IntKind.i64.wrap ((a1.size : Int) - (1 : Int))) else a2) else (0 : Int)) ≤ (a0.size : Int))) = true then if (Nat.ble ((a1.extract 0 ((if (if (IntKind.i64.wrap ((a1.size : Int) - (1 : Int))) < a2 then (IntKind.i64.wrap ((a1.size : Int) - (1 : Int))) else a2) > (0 : Int) then (if (IntKind.i64.wrap ((a1.size : Int) - (1 : Int))) < a2 then (IntKind.i64.wrap ((a1.size : Int) - (1 : Int))) else a2) else (0 : Int)).toNat)).size + (a0.extract ((if (if (IntKind.i64.wrap ((a1.size : Int) - (1 : Int))) < a2 then (IntKind.i64.wrap ((a1.size : Int) - (1 : Int))) else a2) > (0 : Int) then (if (IntKind.i64.wrap ((a1.size : Int) - (1 : Int))) < a2 then (IntKind.i64.wrap ((a1.size : Int) - (1 : Int))) else a2) else (0 : Int)).toNat) a0.size).size) 9223372036854775807) = true then some (((a1.extract 0 ((if (if (IntKind.i64.wrap ((a1.size : Int) - (1 : Int))) < a2 then (IntKind.i64.wrap ((a1.size : Int) - (1 : Int))) else a2) > (0 : Int) then (if (IntKind.i64.wrap ((a1.size : Int) - (1 : Int))) < a2 then (IntKind.i64.wrap ((a1.size : Int) - (1 : Int))) else a2) else (0 : Int)).toNat) ++ a0.extract ((if (if (IntKind.i64.wrap ((a1.size : Int) - (1 : Int))) < a2 then (IntKind.i64.wrap ((a1.size : Int) - (1 : Int))) else a2) > (0 : Int) then (if (IntKind.i64.wrap ((a1.size : Int) - (1 : Int))) < a2 then (IntKind.i64.wrap ((a1.size : Int) - (1 : Int))) else a2) else (0 : Int)).toNat) a0.size), ()), ((), (), (), ())) else none else none else none else if (decide (0 ≤ (if (if (IntKind.i64.wrap ((a1.size : Int) - (1 : Int))) < a2 then (IntKind.i64.wrap ((a1.size : Int) - (1 : Int))) else a2) > (0 : Int) then (if (IntKind.i64.wrap ((a1.size : Int) - (1 : Int))) < a2 then (IntKind.i64.wrap ((a1.size : Int) - (1 : Int))) else a2) else (0 : Int))) && decide ((if (if (IntKind.i64.wrap ((a1.size : Int) - (1 : Int))) < a2 then (IntKind.i64.wrap ((a1.size : Int) - (1 : Int))) else a2) > (0 : Int) then (if (IntKind.i64.wrap ((a1.size : Int) - (1 : Int))) < a2 then (IntKind.i64.wrap ((a1.size : Int) - (1 : Int))) else a2) else (0 : Int)) ≤ (a1.size : Int))) = true then some ((a1.extract 0 ((if (if (IntKind.i64.wrap ((a1.size : Int) - (1 : Int))) < a2 then (IntKind.i64.wrap ((a1.size : Int) - (1 : Int))) else a2) > (0 : Int) then (if (IntKind.i64.wrap ((a1.size : Int) - (1 : Int))) < a2 then (IntKind.i64.wrap ((a1.size : Int) - (1 : Int))) else a2) else (0 : Int)).toNat), ()), ((), (), (), ())) else none := by kernel_rfl
theorem F82_eq (k : Nat) (a0 : List ByteArray) (a1 : List ByteArray) : F82 (k + 2) a0 a1 =
    if ((a0.length : Int) != (a1.length : Int)) = true then some ((false, ()), ((), (), ())) else F82c4 k a0 a1 (0 : Int) := by kernel_rfl
theorem F82c4_eq (k : Nat) (x0 : List ByteArray) (x1 : List ByteArray) (x5 : Int) : F82c4 (k + 1) x0 x1 x5 =
    if (decide (x5 < (x0.length : Int))) = true then if (decide (0 ≤ x5)) = true then (x0[x5.toNat]?).bind fun y1 => if (decide (0 ≤ x5)) = true then (x1[x5.toNat]?).bind fun y2 => if (!(y1.toList == y2.toList)) = true then some ((false, ()), ((), (), ())) else F82c4 k x0 x1 (IntKind.i64.wrap (x5 + (1 : Int))) else none else none else some ((true, ()), ((), (), ())) := by kernel_rfl
theorem F83_eq (k : Nat) (a0 : List (Int × ByteArray × Unit)) (a1 : List (Int × ByteArray × Unit)) : F83 (k + 2) a0 a1 =
    if ((a0.length : Int) != (a1.length : Int)) = true then some ((false, ()), ((), (), ())) else F83c4 k a0 a1 (0 : Int) := by kernel_rfl
theorem F83c4_eq (k : Nat) (x0 : List (Int × ByteArray × Unit)) (x1 : List (Int × ByteArray × Unit)) (x5 : Int) : F83c4 (k + 1) x0 x1 x5 =
    if (decide (x5 < (x0.length : Int))) = true then if (decide (0 ≤ x5)) = true then (x0[x5.toNat]?).bind fun y1 => if (decide (0 ≤ x5)) = true then (x1[x5.toNat]?).bind fun y2 => if (!(y1.1 == y2.1 && (y1.2.1 == y2.2.1 && true))) = true then some ((false, ()), ((), (), ())) else F83c4 k x0 x1 (IntKind.i64.wrap (x5 + (1 : Int))) else none else none else some ((true, ()), ((), (), ())) := by kernel_rfl
theorem F84_eq (k : Nat) (a0_0 : List ByteArray) (a0_1 : List (Int × ByteArray × Unit)) (a0_2 : Int) (a0_3 : Int) : F84 (k + 2) a0_0 a0_1 a0_2 a0_3 =
    if (decide (([] : List ByteArray).length + a0_0.length ≤ 8796093022208)) = true then if (decide (([] : List (Int × ByteArray × Unit)).length + a0_1.length ≤ 5864062014805)) = true then some ((((([] : List ByteArray) ++ a0_0), (([] : List (Int × ByteArray × Unit)) ++ a0_1), a0_2, a0_3, ()), ()), (((), (), (), (), ()), ())) else none else none := by kernel_rfl
theorem F85_eq (k : Nat) (a0 : Int) (a1 : Int) : F85 (k + 2) a0 a1 =
    F85c2 k a0 (a1.tmod (60 : Int)) := by kernel_rfl
theorem F85c2_eq (k : Nat) (x0 : Int) (x5 : Int) : F85c2 (k + 1) x0 x5 =
    if (decide (x5 > (0 : Int))) = true then F85c2 k (IntKind.i64.wrap (x0.tdiv (2 : Int))) (IntKind.i64.wrap (x5 - (1 : Int))) else some ((((x0.tmod (2 : Int)) == (1 : Int)), ()), ((), (), ())) := by kernel_rfl
theorem F86_eq (k : Nat) (a0 : ByteArray) (a1 : ByteArray) (a2 : Int) : F86 (k + 2) a0 a1 a2 =
    if (decide (a2 > (IntKind.i64.wrap ((a0.size : Int) - (1 : Int))))) = true then F86c3 k a0 a1 (IntKind.i64.wrap ((a0.size : Int) - (1 : Int))) else F86c3 k a0 a1 a2 := by kernel_rfl
theorem F86c3_eq (k : Nat) (x0 : ByteArray) (x1 : ByteArray) (x2 : Int) : F86c3 (k + 1) x0 x1 x2 =
    if (decide (x2 < (0 : Int))) = true then F86c5 k x0 x1 (0 : Int) else F86c5 k x0 x1 x2 := by kernel_rfl
theorem F86c5_eq (k : Nat) (x0 : ByteArray) (x1 : ByteArray) (x2 : Int) : F86c5 (k + 1) x0 x1 x2 =
    if (decide (x2 ≥ (x1.size : Int))) = true then if (decide (0 ≤ x2) && decide (x2 ≤ (x0.size : Int))) = true then some ((x0.extract 0 x2.toNat, ()), ((), (), (), ())) else none else if (decide (0 ≤ x2) && decide (x2 ≤ (x0.size : Int))) = true then if (decide (0 ≤ x2) && decide (x2 ≤ (x1.size : Int))) = true then if (Nat.ble ((x0.extract 0 x2.toNat).size + (x1.extract x2.toNat x1.size).size) 9223372036854775807) = true then some (((x0.extract 0 x2.toNat ++ x1.extract x2.toNat x1.size), ()), ((), (), (), ())) else none else none else none := by kernel_rfl
theorem F102_eq (k : Nat) (a0_0 : Int) (a0_1 : ByteArray) : F102 (k + 2) a0_0 a0_1 =
    (F73 k a0_0 (0 : Int) (41 : Int)).bind fun r1 => if r1.1.1 = true then some ((decide ((a0_1.size : Int) ≤ (1200 : Int)), ()), (((), (), ()), ())) else some ((false, ()), (((), (), ()), ())) := by kernel_rfl
theorem F106_eq (k : Nat) (a0 : Int) (a1 : Int) (a2 : Int) : F106 (k + 2) a0 a1 a2 =
    if (decide (a0 ≥ a1)) = true then some ((decide (a0 ≤ a2), ()), ((), (), (), ())) else some ((false, ()), ((), (), (), ())) := by kernel_rfl
theorem F108_eq (k : Nat) (a0_0 : List Int) (a0_1 : Int) : F108 (k + 2) a0_0 a0_1 =
    (F18 k).bind fun r1 => (F79 k a0_0 a0_1 (6 : Int)).bind fun r2 => F108c3 k r2.2.1.1 r2.2.1.2.1 ([] : List ByteArray) ([] : List (Int × ByteArray × Unit)) (0 : Int) (0 : Int) r1.1.1.1 r1.1.1.2.1 r1.1.1.2.2.1 r1.1.1.2.2.2.1 r2.1.1 := by kernel_rfl
theorem F108c3_eq (k : Nat) (x0_0 : List Int) (x0_1 : Int) (x2_0 : List ByteArray) (x2_1 : List (Int × ByteArray × Unit)) (x2_2 : Int) (x2_3 : Int) (x3_0 : List ByteArray) (x3_1 : List (Int × ByteArray × Unit)) (x3_2 : Int) (x3_3 : Int) (x4 : Int) : F108c3 (k + 1) x0_0 x0_1 x2_0 x2_1 x2_2 x2_3 x3_0 x3_1 x3_2 x3_3 x4 =
    if (decide (x4 > (0 : Int))) = true then (F79 k x0_0 x0_1 (42 : Int)).bind fun r3 => (F77 k r3.2.1.1 r3.2.1.2.1 [(0 : Int), (1 : Int), (2 : Int), (3 : Int), (21 : Int), (22 : Int), (23 : Int), (41 : Int), r3.1.1]).bind fun r4 => (F129 k r4.2.1.1 r4.2.1.2.1).bind fun r5 => (F128 k x3_0 x3_1 x3_2 x3_3 r4.1.1 r5.1.1).bind fun r6 => F108c3 k r5.2.1.1 r5.2.1.2.1 x2_0 x2_1 x2_2 x2_3 r6.1.1.1 r6.1.1.2.1 r6.1.1.2.2.1 r6.1.1.2.2.2.1 (IntKind.i64.wrap (x4 - (1 : Int))) else (F79 k x0_0 x0_1 (2 : Int)).bind fun r7 => if (r7.1.1 == (0 : Int)) = true then (F130 k x3_0 x3_1 x3_2 x3_3).bind fun r8 => F108c8 k r7.2.1.1 r7.2.1.2.1 x2_0 x2_1 x2_2 x2_3 r8.1.1.1 r8.1.1.2.1 r8.1.1.2.2.1 r8.1.1.2.2.2.1 else F108c8 k r7.2.1.1 r7.2.1.2.1 x2_0 x2_1 x2_2 x2_3 x3_0 x3_1 x3_2 x3_3 := by kernel_rfl
theorem F108c8_eq (k : Nat) (x0_0 : List Int) (x0_1 : Int) (x2_0 : List ByteArray) (x2_1 : List (Int × ByteArray × Unit)) (x2_2 : Int) (x2_3 : Int) (x3_0 : List ByteArray) (x3_1 : List (Int × ByteArray × Unit)) (x3_2 : Int) (x3_3 : Int) : F108c8 (k + 1) x0_0 x0_1 x2_0 x2_1 x2_2 x2_3 x3_0 x3_1 x3_2 x3_3 =
    (F79 k x0_0 x0_1 (6 : Int)).bind fun r9 => F108c9 k r9.2.1.1 r9.2.1.2.1 x2_0 x2_1 x2_2 x2_3 x3_0 x3_1 x3_2 x3_3 r9.1.1 := by kernel_rfl
theorem F108c9_eq (k : Nat) (x0_0 : List Int) (x0_1 : Int) (x2_0 : List ByteArray) (x2_1 : List (Int × ByteArray × Unit)) (x2_2 : Int) (x2_3 : Int) (x3_0 : List ByteArray) (x3_1 : List (Int × ByteArray × Unit)) (x3_2 : Int) (x3_3 : Int) (x5 : Int) : F108c9 (k + 1) x0_0 x0_1 x2_0 x2_1 x2_2 x2_3 x3_0 x3_1 x3_2 x3_3 x5 =
    if (decide (x5 > (0 : Int))) = true then (F79 k x0_0 x0_1 (42 : Int)).bind fun r10 => (F77 k r10.2.1.1 r10.2.1.2.1 [(0 : Int), (1 : Int), (2 : Int), (22 : Int), r10.1.1]).bind fun r11 => (F129 k r11.2.1.1 r11.2.1.2.1).bind fun r12 => (F128 k x3_0 x3_1 x3_2 x3_3 r11.1.1 r12.1.1).bind fun r13 => F108c9 k r12.2.1.1 r12.2.1.2.1 x2_0 x2_1 x2_2 x2_3 r13.1.1.1 r13.1.1.2.1 r13.1.1.2.2.1 r13.1.1.2.2.2.1 (IntKind.i64.wrap (x5 - (1 : Int))) else (F77 k x0_0 x0_1 [(-1 : Int), (-1 : Int), (-1 : Int), (0 : Int), (1 : Int), (3 : Int)]).bind fun r14 => (F77 k r14.2.1.1 r14.2.1.2.1 [(-1 : Int), (-1 : Int), (-1 : Int), (0 : Int), (1 : Int), (2 : Int)]).bind fun r15 => some (((x3_0, x3_1, r14.1.1, r15.1.1, ()), ()), ((r15.2.1.1, r15.2.1.2.1, ()), ())) := by kernel_rfl
theorem F109_eq (k : Nat) (a0 : ByteArray) (a1 : Int) : F109 (k + 2) a0 a1 =
    F109c2 k a0 a1 (⟨#[]⟩ : ByteArray) := by kernel_rfl
theorem F109c2_eq (k : Nat) (x0 : ByteArray) (x1 : Int) (x5 : ByteArray) : F109c2 (k + 1) x0 x1 x5 =
    if (decide (x1 > (0 : Int))) = true then if (Nat.ble (x5.size + x0.size) 9223372036854775807) = true then F109c2 k x0 (IntKind.i64.wrap (x1 - (1 : Int))) (x5 ++ x0) else none else some ((x5, ()), ((), (), ())) := by kernel_rfl
theorem F110_eq (k : Nat) (a0 : List ByteArray) : F110 (k + 2) a0 =
    if ((a0.length : Int) == (a0.length : Int) && (a0.length : Int) == (a0.length : Int)) = true then some ((a0, ()), ((), ())) else none := by kernel_rfl
theorem F111_eq (k : Nat) (a0 : List ByteArray) : F111 (k + 2) a0 =
    bothK (emptyL a0) (some ((([] : List ByteArray), ()), ((), ()))) (if (decide (([] : List ByteArray).length + a0.length ≤ 8796093022208)) = true then some (((([] : List ByteArray) ++ a0), ()), ((), ())) else none) := by kernel_rfl
theorem F128_eq (k : Nat) (a0_0 : List ByteArray) (a0_1 : List (Int × ByteArray × Unit)) (a0_2 : Int) (a0_3 : Int) (a1 : Int) (a2 : ByteArray) : F128 (k + 2) a0_0 a0_1 a0_2 a0_3 a1 a2 =
    if (a0_3 == (0 : Int)) = true then (F84 k a0_0 a0_1 a0_2 a0_3).bind fun r1 => some (((r1.1.1.1, r1.1.1.2.1, r1.1.1.2.2.1, r1.1.1.2.2.2.1, ()), true, ()), (((), (), (), (), ()), (), (), ())) else (F102 k a1 a2).bind fun r2 => if (!r2.1.1) = true then (F84 k a0_0 a0_1 a0_2 a0_3).bind fun r3 => some (((r3.1.1.1, r3.1.1.2.1, r3.1.1.2.2.1, r3.1.1.2.2.2.1, ()), false, ()), (((), (), (), (), ()), (), (), ())) else if (a0_2 == (0 : Int)) = true then (F84 k a0_0 a0_1 a0_2 a0_3).bind fun r4 => some (((r4.1.1.1, r4.1.1.2.1, r4.1.1.2.2.1, r4.1.1.2.2.2.1, ()), false, ()), (((), (), (), (), ()), (), (), ())) else if (decide ((a0_1.length : Int) ≥ (100 : Int))) = true then (F84 k a0_0 a0_1 a0_2 a0_3).bind fun r5 => some (((r5.1.1.1, r5.1.1.2.1, r5.1.1.2.2.1, r5.1.1.2.2.2.1, ()), false, ()), (((), (), (), (), ()), (), (), ())) else (F84 k a0_0 a0_1 a0_2 a0_3).bind fun r6 => if (decide (r6.1.1.2.1.length + [(a1, (a2, ()))].length ≤ 5864062014805)) = true then (F144 k a0_3).bind fun r7 => (F144 k a0_2).bind fun r8 => some (((r6.1.1.1, (r6.1.1.2.1 ++ [(a1, (a2, ()))]), r8.1.1, r7.1.1, ()), true, ()), (((), (), (), (), ()), (), (), ())) else none := by kernel_rfl
theorem F129_eq (k : Nat) (a0_0 : List Int) (a0_1 : Int) : F129 (k + 2) a0_0 a0_1 =
    (F52 k a0_0 a0_1 [(⟨#[]⟩ : ByteArray), (⟨#[97]⟩ : ByteArray), (⟨#[98, 98]⟩ : ByteArray), (⟨#[112, 97, 103, 101]⟩ : ByteArray), (⟨#[58, 49, 46, 49, 59]⟩ : ByteArray), (⟨#[72, 50, 46, 50, 59]⟩ : ByteArray), (⟨#[49, 32, 49, 32, 48, 32, 48, 32, 33, 32, 49, 58, 120, 58, 49, 46, 49, 59]⟩ : ByteArray), (⟨#[108, 111, 110, 103, 32, 116, 101, 120, 116, 32, 116, 104, 97, 116, 32, 105, 115, 32, 108, 111, 110, 103, 101, 114, 32, 116, 104, 97, 110, 32, 111, 116, 104, 101, 114, 115]⟩ : ByteArray), (⟨#[48, 49, 50, 51, 52, 53, 54, 55, 56, 57]⟩ : ByteArray), (⟨#[97, 98, 99, 100, 101, 102, 103, 104, 105, 106]⟩ : ByteArray)]).bind fun r1 => some ((r1.1.1, ()), ((r1.2.1.1, r1.2.1.2.1, ()), ())) := by kernel_rfl
theorem F130_eq (k : Nat) (a0_0 : List ByteArray) (a0_1 : List (Int × ByteArray × Unit)) (a0_2 : Int) (a0_3 : Int) : F130 (k + 2) a0_0 a0_1 a0_2 a0_3 =
    (F84 k a0_0 a0_1 a0_2 a0_3).bind fun r1 => if (a0_3 == (0 : Int)) = true then some (((r1.1.1.1, r1.1.1.2.1, r1.1.1.2.2.1, r1.1.1.2.2.2.1, ()), ()), (((), (), (), (), ()), ())) else F130c5 k a0_0 a0_1 a0_2 a0_3 ([] : List ByteArray) ([] : List (Int × ByteArray × Unit)) (0 : Int) (0 : Int) r1.1.1.1 r1.1.1.2.1 r1.1.1.2.2.1 r1.1.1.2.2.2.1 (0 : Int) := by kernel_rfl
theorem F130c5_eq (k : Nat) (x1_0 : List ByteArray) (x1_1 : List (Int × ByteArray × Unit)) (x1_2 : Int) (x1_3 : Int) (x2_0 : List ByteArray) (x2_1 : List (Int × ByteArray × Unit)) (x2_2 : Int) (x2_3 : Int) (x3_0 : List ByteArray) (x3_1 : List (Int × ByteArray × Unit)) (x3_2 : Int) (x3_3 : Int) (x4 : Int) : F130c5 (k + 1) x1_0 x1_1 x1_2 x1_3 x2_0 x2_1 x2_2 x2_3 x3_0 x3_1 x3_2 x3_3 x4 =
    if (decide (x4 < (x1_1.length : Int))) = true then if (decide (0 ≤ x4)) = true then (x1_1[x4.toNat]?).bind fun y2 => if (decide (0 ≤ x4)) = true then (x1_1[x4.toNat]?).bind fun y3 => if (decide (0 ≤ y2.1) && decide (y2.1 < (x3_0.length : Int))) = true then (x3_0[y2.1.toNat]?).bind fun y4 => F130c5 k x1_0 x1_1 x1_2 x1_3 x2_0 x2_1 x2_2 x2_3 (x3_0.set y2.1.toNat y3.2.1) x3_1 x3_2 x3_3 (IntKind.i64.wrap (x4 + (1 : Int))) else none else none else none else (F144 k x1_3).bind fun r5 => some (((x3_0, ([] : List (Int × ByteArray × Unit)), x3_2, r5.1.1, ()), ()), (((), (), (), (), ()), ())) := by kernel_rfl
theorem F144_eq (k : Nat) (a0 : Int) : F144 (k + 2) a0 =
    if (decide (a0 > (0 : Int))) = true then some (((IntKind.i64.wrap (a0 - (1 : Int))), ()), ((), ())) else some ((a0, ()), ((), ())) := by kernel_rfl
theorem F70068_eq (k : Nat) (a0 : List ByteArray) : F70068 (k + 2) a0 =
    (F70104 k a0).bind fun r1 => some ((decide (r1.1.1 ≥ (0 : Int)), ()), ((), (), ())) := by kernel_rfl
theorem F70104_eq (k : Nat) (a0 : List ByteArray) : F70104 (k + 2) a0 =
    F70104c2 k a0 (a0.length : Int) (0 : Int) := by kernel_rfl
theorem F70104c2_eq (k : Nat) (x0 : List ByteArray) (x7 : Int) (x8 : Int) : F70104c2 (k + 1) x0 x7 x8 =
    if (decide (x8 < x7)) = true then if (decide (0 ≤ x8)) = true then (x0[x8.toNat]?).bind fun y1 => (F69 k y1).bind fun r2 => if r2.1.1 = true then some ((x8, ()), ((), (), ())) else F70104c2 k x0 x7 (IntKind.i64.wrap (x8 + (1 : Int))) else none else some (((-1 : Int), ()), ((), (), ())) := by kernel_rfl
theorem F72070_eq (k : Nat) (a0 : List (Int × ByteArray × Unit)) : F72070 (k + 2) a0 =
    (F72105 k a0).bind fun r1 => some ((decide (r1.1.1 ≥ (0 : Int)), ()), ((), (), ())) := by kernel_rfl
theorem F72105_eq (k : Nat) (a0 : List (Int × ByteArray × Unit)) : F72105 (k + 2) a0 =
    F72105c2 k a0 (a0.length : Int) (0 : Int) := by kernel_rfl
theorem F72105c2_eq (k : Nat) (x0 : List (Int × ByteArray × Unit)) (x7 : Int) (x8 : Int) : F72105c2 (k + 1) x0 x7 x8 =
    if (decide (x8 < x7)) = true then if (decide (0 ≤ x8)) = true then (x0[x8.toNat]?).bind fun y1 => (F71 k y1.1 y1.2.1).bind fun r2 => if r2.1.1 = true then some ((x8, ()), ((), (), ())) else F72105c2 k x0 x7 (IntKind.i64.wrap (x8 + (1 : Int))) else none else some (((-1 : Int), ()), ((), (), ())) := by kernel_rfl
end Go.Proofs.Ytldjfonpegffiaa.R
end

section
/-! Rf: what is to be shown of a law, with no machine in sight. -/
set_option autoImplicit false
namespace Go.Proofs.Ytldjfonpegffiaa.R
open Go.Rf
def PureFnDiskCrash : Prop := ∀ (a0 : List Int), wfT (.sl (.int .u8)) a0 → ∃ k p, F9 k a0 = some ((true, ()), p)
end Go.Proofs.Ytldjfonpegffiaa.R
end

section
set_option linter.unusedVariables false
set_option linter.unusedSimpArgs false
namespace Go.Proofs.YtldjfonpegffiaaW.PrintWords
open Go.RowKit
/-- A fact that the walk's simp doesn't look into. -/
structure Aside0 (p : Prop) : Prop where mk :: (out : p)
/-- The world is the old one, some orders having been drawn. -/
structure Drawn0 (w w' : World) : Prop where mk :: (out : ∃ n, w' = w.drewN n)
theorem Drawn0.refl (w : World) : Drawn0 w w := ⟨⟨0, rfl⟩⟩
theorem Drawn0.step {w w' : World} (h : Drawn0 w w') (n : Nat) : Drawn0 w (w'.drewN n) := by
  obtain ⟨m, rfl⟩ := h
  exact ⟨⟨m + n, World.drewN_drewN ..⟩⟩
theorem Drawn0.below {w w' : World} (h : Drawn0 w w') : Below w.heap.size w w' := by
  obtain ⟨n, rfl⟩ := h
  induction n with
  | zero => exact Below.refl _ _
  | succ n ih => rw [← World.drew_drewN]; exact ih.drew
theorem below_alloc {w W : World} (h : Below w.heap.size w W) (o : Obj) : Below w.heap.size w (W.alloc o) := h.alloc h.size o
theorem below_drew {B : Nat} {w W : World} (h : Below B w W) : Below B w W.drew := ⟨h.os, h.tape, h.output, h.size, h.block⟩
theorem pw_below_drewN {B : Nat} {w W : World} (h : Below B w W) (n : Nat) : Below B w (W.drewN n) := ⟨h.os, h.tape, h.output, h.size, h.block⟩
theorem below_then {B : Nat} {w w1 w2 : World} (h : Below B w w1) (hB : B ≤ w1.heap.size) (k : Below w1.heap.size w1 w2) : Below B w w2 :=
  h.trans ⟨k.os, k.tape, k.output, k.size, fun i hi => k.block i (Nat.lt_of_lt_of_le hi hB)⟩
theorem grown_of_below {w w1 : World} (h : Below w.heap.size w w1) (row : Option Nat) : w.grownBy w1 row := ⟨h.os, h.tape, h.output, h.size, fun i hi _ => h.block i hi⟩
theorem pw_cell_below {w w1 : World} (h : Below w.heap.size w w1) {a : Addr} {v : Value} (hc : w.cell? a = some v) : w1.cell? a = some v := (h.cell (World.block_lt_of_cell? w a hc)).trans hc
def ReadsInt (w : World) (k : IntKind) (A : Option Addr) (n : Nat) (xs : List Int) : Prop :=
  xs.length = n ∧ n ≤ 9223372036854775807 ∧ (0 < n → ∃ ad, A = some ad ∧ ∀ j, j < n → w.cell? (ad.add j) = some (.int k (xs.getD j 0)))
theorem ReadsInt.below {w w1 : World} {k : IntKind} {A : Option Addr} {n : Nat} {xs : List Int} (h : ReadsInt w k A n xs) (hb : Below w.heap.size w w1) : ReadsInt w1 k A n xs :=
  ⟨h.1, h.2.1, fun hn => by
    obtain ⟨ad, e, hc⟩ := h.2.2 hn
    exact ⟨ad, e, fun j hj => pw_cell_below hb (hc j hj)⟩⟩
theorem own_base {w : World} {base : Nat} {e : TypeId} {size n : Nat} {v : Value} {xs : List Value} (h : w.ownsRow base e size v n xs) (k : Nat) (hk : v.ownBlock = some k) : base ≤ k := by
  rcases h.2 with ⟨rfl, _⟩ | ⟨g, cap, cur, rfl, hb, _⟩
  · simp [Value.ownBlock] at hk
  · have : g = k := by simpa [Value.ownBlock] using hk
    omega
theorem own_lt {w : World} {base : Nat} {e : TypeId} {size n : Nat} {v : Value} {xs : List Value} (h : w.ownsRow base e size v n xs) (k : Nat) (hk : v.ownBlock = some k) : k < w.heap.size := by
  rcases h.2 with ⟨rfl, _⟩ | ⟨g, cap, cur, rfl, hb, hh, _⟩
  · simp [Value.ownBlock] at hk
  · have : g = k := by simpa [Value.ownBlock] using hk
    subst this
    exact (Array.getElem?_eq_some_iff.1 hh).1
theorem pw_own_below {w w1 : World} {base : Nat} {e : TypeId} {size n : Nat} {v : Value} {xs : List Value} (h : w.ownsRow base e size v n xs) (hb : Below w.heap.size w w1) : w1.ownsRow base e size v n xs :=
  h.kept (grown_of_below hb none) (by cases v.ownBlock <;> simp)
section
end
section
end
section
end
/-- Where the first answers, the second answers the same. -/
def LeO {α : Type} (a b : Option α) : Prop := ∀ r, a = some r → b = some r
theorem LeO.trans {α : Type} {a b c : Option α} (h : LeO a b) (k : LeO b c) : LeO a c := fun r hr => k r (h r hr)
theorem LeO.map {α β : Type} {a a' : Option α} (f : α → β) (h : LeO a a') : LeO (a.map f) (a'.map f) := by
  intro r hr
  obtain ⟨x, hx, hf⟩ := Option.map_eq_some_iff.1 hr
  exact Option.map_eq_some_iff.2 ⟨x, h x hx, hf⟩
def Reps {α : Type} (R : α → List Value → Prop) (size : Nat) (ps : List α) (cs : List Value) : Prop :=
  cs.length = ps.length * size ∧ ∀ j p, ps[j]? = some p → R p ((cs.drop (j * size)).take size)
theorem Reps.imp_ {α : Type} {R R' : α → List Value → Prop} {size : Nat} {ps : List α} {cs : List Value} (h : Reps R size ps cs) (hR : ∀ p c, R p c → R' p c) : Reps R' size ps cs := ⟨h.1, fun j p hj => hR _ _ (h.2 j p hj)⟩
def ReadsRow {α : Type} (R : α → List Value → Prop) (size : Nat) (w : World) (A : Option Addr) (n : Nat) (ps : List α) : Prop :=
  ps.length = n ∧ n ≤ 9223372036854775807 ∧ (0 < n → ∃ ad, A = some ad ∧ ∀ j p, ps[j]? = some p → ∃ c, c.length = size ∧ R p c ∧ ∀ i u, c[i]? = some u → w.cell? (ad.add (j * size + i)) = some u)
theorem ReadsRow.get_ {α : Type} {R : α → List Value → Prop} {size : Nat} {w : World} {A : Option Addr} {n : Nat} {ps : List α} (h : ReadsRow R size w A n ps) (d : α) (i : Int) (h0 : 0 ≤ i) (h1 : i < n) :
    ∃ ad c, A = some ad ∧ c.length = size ∧ R (ps.getD i.toNat d) c ∧ ∀ j u, c[j]? = some u → w.cell? (ad.add (i.toNat * size + j)) = some u := by
  obtain ⟨ad, e, hc⟩ := h.2.2 (by omega)
  have hl : i.toNat < ps.length := by have := h.1; omega
  obtain ⟨c, hs, hr, hcell⟩ := hc i.toNat _ (List.getElem?_eq_getElem hl)
  refine ⟨ad, c, e, hs, ?_, hcell⟩
  rw [List.getD_eq_getElem?_getD, List.getElem?_eq_getElem hl]
  exact hr
theorem ReadsRow.imp_ {α : Type} {R R' : α → List Value → Prop} {size : Nat} {w w1 : World} {A : Option Addr} {n : Nat} {ps : List α} (h : ReadsRow R size w A n ps) (hb : Below w.heap.size w w1) (hR : ∀ p c, R p c → R' p c) : ReadsRow R' size w1 A n ps :=
  ⟨h.1, h.2.1, fun hn => by
    obtain ⟨ad, e, hc⟩ := h.2.2 hn
    refine ⟨ad, e, fun j p hj => ?_⟩
    obtain ⟨c, hs, hr, hcell⟩ := hc j p hj
    exact ⟨c, hs, hR _ _ hr, fun i u hu => pw_cell_below hb (hcell i u hu)⟩⟩
theorem own_reads_row {α : Type} {R : α → List Value → Prop} {w : World} {base n size : Nat} {e : TypeId} {v : Value} {ps : List α} {cs : List Value} (h : w.ownsRow base e size v n cs) (hR : Reps R size ps cs) (hn : ps.length = n) :
    ∃ A c, v = .slice A n c ∧ ReadsRow R size w A n ps := by
  rcases Nat.eq_zero_or_pos n with h0 | h0
  · rcases h.2 with ⟨rfl, rfl⟩ | ⟨g, cap, cur, rfl, _⟩
    · exact ⟨none, 0, rfl, hn, by omega, fun hp => absurd hp (by omega)⟩
    · exact ⟨_, cap, rfl, hn, by omega, fun hp => absurd hp (by omega)⟩
  · obtain ⟨g, cap, rfl, _, _⟩ := h.form h0
    have hm : n ≤ 9223372036854775807 := by
      rcases h.2 with ⟨_, h1⟩ | ⟨g', cap', cur, he, _, _, h1, h2, _⟩
      · omega
      · simp only [maxLen] at h2
        omega
    refine ⟨_, cap, rfl, hn, hm, fun _ => ⟨_, rfl, fun j p hj => ⟨(cs.drop (j * size)).take size, ?_, hR.2 j p hj, fun i u hu => ?_⟩⟩⟩
    · have hjl := (List.getElem?_eq_some_iff.1 hj).1
      have h1 : j * size + size ≤ cs.length := by rw [hR.1, ← Nat.succ_mul]; exact Nat.mul_le_mul_right _ hjl
      rw [List.length_take, List.length_drop]
      omega
    · refine h.cells (g := g) rfl _ u ?_
      rw [List.getElem?_take] at hu
      split at hu
      · rw [List.getElem?_drop] at hu
        exact hu
      · cases hu
/-- A field's address as_ the walk spells it. -/
theorem add_field (ad : Addr) (m j : Nat) (hj : 0 < j) : ad.add (m + j) = ⟨(ad.add m).block, (ad.add m).off + j, none⟩ := by
  unfold Addr.add
  by_cases hm : m = 0
  · subst hm
    simp [Nat.ne_of_gt hj]
  · simp [hm, Nat.add_assoc]
section
end
theorem blk_lt {w : World} {g : Nat} {o : Obj} (h : w.heap[g]? = some o) : g < w.heap.size := (Array.getElem?_eq_some_iff.1 h).1
theorem blk_cell {w : World} {g : Nat} {t : TypeId} {cs : Array Value} (h : w.heap[g]? = some (.cells cs t (0, 0))) (i : Nat) : w.cell? ⟨g, i, none⟩ = cs[i]? := cell_of_row w g i cs t (0, 0) h
theorem blk_frozen {w : World} {g : Nat} {t : TypeId} {cs : Array Value} (h : w.heap[g]? = some (.cells cs t (0, 0))) (i : Nat) : w.frozen? ⟨g, i, none⟩ = false := by simp [World.frozen?, h]
def KeepBut (w w' : World) (g : Nat) (row : Option Nat) : Prop := w.heap.size ≤ w'.heap.size ∧ ∀ i, i < w.heap.size → i ≠ g → some i ≠ row → w'.heap[i]? = w.heap[i]?
theorem KeepBut.trans {w w1 w2 : World} {g : Nat} {row row1 : Option Nat} (h : KeepBut w w1 g row) (k : KeepBut w1 w2 g row1) (hr : row1 = row ∨ ∃ b, row1 = some b ∧ w.heap.size ≤ b) : KeepBut w w2 g row :=
  ⟨Nat.le_trans h.1 k.1, fun i hi hg hn => by
    refine (k.2 i (Nat.lt_of_lt_of_le hi h.1) hg ?_).trans (h.2 i hi hg hn)
    rcases hr with rfl | ⟨b, rfl, hb⟩
    · exact hn
    · intro e
      injection e with e
      omega⟩
section
end
theorem own_weaken {w : World} {base base' : Nat} {e : TypeId} {size n : Nat} {v : Value} {xs : List Value} (h : w.ownsRow base e size v n xs) (hb : base' ≤ base) : w.ownsRow base' e size v n xs := by
  obtain ⟨h1, h2⟩ := h
  refine ⟨h1, ?_⟩
  rcases h2 with h2 | ⟨g, cap, cur, rfl, hg, r⟩
  · exact .inl h2
  · exact .inr ⟨g, cap, cur, rfl, Nat.le_trans hb hg, r⟩
section
variable {α : Type} {enc : α → Value} {d : α}
def rdOf (d : α) (xs : List α) (i : Int) : α := xs.getD i.toNat d
def ReadsOf (enc : α → Value) (d : α) (w : World) (A : Option Addr) (n : Nat) (xs : List α) : Prop :=
  xs.length = n ∧ n ≤ 9223372036854775807 ∧ (0 < n → ∃ ad, A = some ad ∧ ∀ j, j < n → w.cell? (ad.add j) = some (enc (xs.getD j d)))
theorem ReadsOf.at_ {w : World} {A : Option Addr} {n : Nat} {xs : List α} (h : ReadsOf enc d w A n xs) (i : Int) (h0 : 0 ≤ i) (h1 : i < n) : ∃ ad, A = some ad ∧ w.cell? (ad.add i.toNat) = some (enc (rdOf d xs i)) := by
  obtain ⟨ad, e, hc⟩ := h.2.2 (by omega)
  exact ⟨ad, e, hc _ (by omega)⟩
theorem ReadsOf.below {w w1 : World} {A : Option Addr} {n : Nat} {xs : List α} (h : ReadsOf enc d w A n xs) (hb : Below w.heap.size w w1) : ReadsOf enc d w1 A n xs :=
  ⟨h.1, h.2.1, fun hn => by
    obtain ⟨ad, e, hc⟩ := h.2.2 hn
    exact ⟨ad, e, fun j hj => pw_cell_below hb (hc j hj)⟩⟩
end
section
end
theorem blk_alloc {w : World} {g : Nat} {o : Obj} (h : w.heap[g]? = some o) (o' : Obj) : (w.alloc o').heap[g]? = some o := (Below.heap_alloc w o' g (blk_lt h)).trans h
theorem blk_drew {w : World} {g : Nat} {o : Obj} (h : w.heap[g]? = some o) : w.drew.heap[g]? = some o := h
theorem blk_drewN {w : World} {g : Nat} {o : Obj} (h : w.heap[g]? = some o) (n : Nat) : (w.drewN n).heap[g]? = some o := h
theorem blk_below {w w1 : World} {g : Nat} {o : Obj} (h : w.heap[g]? = some o) (hb : Below w.heap.size w w1) : w1.heap[g]? = some o := (hb.block g (blk_lt h)).trans h
theorem blk_new (w : World) (o : Obj) : (w.alloc o).heap[w.heap.size]? = some o := heap_alloc_new w o
section
end
theorem own_le {w : World} {base n m c size : Nat} {e : TypeId} {A : Option Addr} {xs : List Value} (h : w.ownsRow base e size (.slice A m c) n xs) : m ≤ c := by
  rcases h.2 with ⟨he, _⟩ | ⟨g, cap, cur, he, _, _, hnc, _⟩
  · injection he with _ h2 h3
    omega
  · injection he with _ h2 h3
    omega
def OwnRow {α : Type} (R : α → List Value → Prop) (e : TypeId) (size : Nat) (w : World) (base : Nat) (v : Value) (ps : List α) : Prop :=
  ∃ inner, w.ownsRow base e size v ps.length inner ∧ Reps R size ps inner
section
variable {α : Type} {R R' : α → List Value → Prop} {e : TypeId} {size : Nat} {w w1 : World} {base : Nat} {v : Value} {ps : List α}
theorem OwnRow.imp_ (h : OwnRow R e size w base v ps) (hR : ∀ p c, R p c → R' p c) : OwnRow R' e size w base v ps := by
  obtain ⟨inner, ho, hr⟩ := h
  exact ⟨inner, ho, hr.imp_ hR⟩
theorem OwnRow.below (h : OwnRow R e size w base v ps) (hb : Below w.heap.size w w1) : OwnRow R e size w1 base v ps := by
  obtain ⟨inner, ho, hr⟩ := h
  exact ⟨inner, pw_own_below ho hb, hr⟩
theorem OwnRow.reads (h : OwnRow R e size w base v ps) : ∃ A c, v = .slice A ps.length c ∧ ps.length ≤ c ∧ ReadsRow R size w A ps.length ps := by
  obtain ⟨inner, ho, hr⟩ := h
  obtain ⟨A, c, rfl, hrow⟩ := own_reads_row ho hr rfl
  exact ⟨A, c, rfl, own_le ho, hrow⟩
end
section
end
section
end
section
end
section
end
/-- ok: which blocks the rows inside may be ('not the row that is being written'). -/
structure Kd (α : Type) where
  sz : Nat
  E : List Nat
  K : World → α → List Value → Prop
  M : World → Nat → (Nat → Prop) → α → List Value → Prop
  K_len : ∀ {w x cs}, K w x cs → cs.length = sz
  K_one : ∀ {w x cs}, K w x cs → ∀ u ∈ cs, u.oneCell' = true
  K_below : ∀ {w w1 : World} {x cs}, Below w.heap.size w w1 → K w x cs → K w1 x cs
  K_of_M : ∀ {w base ok x cs}, M w base ok x cs → K w x cs
  M_mono : ∀ {w base ok ok' x cs}, (∀ k, ok k → ok' k) → M w base ok x cs → M w base ok' x cs
  M_bound : ∀ {w : World} {base ok x cs}, M w base ok x cs → M w base (fun k => ok k ∧ base ≤ k ∧ k < w.heap.size ∧ ∃ q, q ∈ E ∧ ∃ cells, w.heap[k]? = some (.cells cells q (0, 0))) x cs
  M_move : ∀ {w w1 : World} {base ok x cs}, (∀ k, ok k → w1.heap[k]? = w.heap[k]?) → M w base ok x cs → M w1 base ok x cs
  M_lower : ∀ {w base base' ok x cs}, base' ≤ base → M w base ok x cs → M w base' ok x cs
theorem own_move {w w1 : World} {base : Nat} {e : TypeId} {size n : Nat} {v : Value} {xs : List Value} (h : w.ownsRow base e size v n xs) (hm : ∀ k, v.ownBlock = some k → w1.heap[k]? = w.heap[k]?) : w1.ownsRow base e size v n xs := by
  obtain ⟨h1, h2⟩ := h
  refine ⟨h1, ?_⟩
  rcases h2 with h2 | ⟨g, cap, cur, rfl, hg, hh, r⟩
  · exact .inl h2
  · exact .inr ⟨g, cap, cur, rfl, hg, (hm g (by simp [Value.ownBlock])).trans hh, r⟩
theorem own_typed {w : World} {base : Nat} {e : TypeId} {size n : Nat} {v : Value} {xs : List Value} (h : w.ownsRow base e size v n xs) (k : Nat) (hk : v.ownBlock = some k) : ∃ cells, w.heap[k]? = some (.cells cells e (0, 0)) := by
  rcases h.2 with ⟨rfl, _⟩ | ⟨g, cap, cur, rfl, hg, hh, r⟩
  · simp [Value.ownBlock] at hk
  · have : g = k := by simpa [Value.ownBlock] using hk
    subst this
    exact ⟨cur, hh⟩
namespace Kd
/-- A row of elements that is read. -/
def C {α : Type} (d : Kd α) (w : World) (A : Option Addr) (n : Nat) (xs : List α) : Prop := ReadsRow (d.K w) d.sz w A n xs
/-- A row of elements (type e) of the call's own; the elements' rows are not this one. -/
def R {α : Type} (d : Kd α) (e : Nat) (w : World) (base : Nat) (ok : Nat → Prop) (v : Value) (xs : List α) : Prop :=
  (∀ k, v.ownBlock = some k → ok k) ∧ OwnRow (d.M w base (fun k => ok k ∧ some k ≠ v.ownBlock)) e d.sz w base v xs
section
variable {α : Type} {d : Kd α} {e : Nat} {w w1 : World} {base : Nat} {ok ok' : Nat → Prop} {v : Value} {xs : List α}
theorem C_below {A : Option Addr} {n : Nat} (h : d.C w A n xs) (hb : Below w.heap.size w w1) : d.C w1 A n xs := ReadsRow.imp_ h hb (fun _ _ hp => d.K_below hb hp)
theorem R_mono (h : d.R e w base ok v xs) (hok : ∀ k, ok k → ok' k) : d.R e w base ok' v xs := ⟨fun k hk => hok k (h.1 k hk), h.2.imp_ (fun _ _ hp => d.M_mono (fun k hk => ⟨hok k hk.1, hk.2⟩) hp)⟩
theorem R_bound (h : d.R e w base ok v xs) : d.R e w base (fun k => ok k ∧ base ≤ k ∧ k < w.heap.size ∧ ∃ q, q ∈ e :: d.E ∧ ∃ cells, w.heap[k]? = some (.cells cells q (0, 0))) v xs := by
  obtain ⟨h0, inner, ho, hr⟩ := h
  refine ⟨fun k hk => ?_, inner, ho, hr.imp_ (fun _ _ hp => d.M_mono (fun k hk => ?_) (d.M_bound hp))⟩
  · obtain ⟨cells, hc⟩ := own_typed ho k hk
    exact ⟨h0 k hk, own_base ho k hk, own_lt ho k hk, e, List.mem_cons_self, cells, hc⟩
  · obtain ⟨⟨h1, h2⟩, h3, h4, q, hq, hc⟩ := hk
    exact ⟨⟨h1, h3, h4, q, List.mem_cons_of_mem _ hq, hc⟩, h2⟩
theorem R_move (h : d.R e w base ok v xs) (hm : ∀ k, ok k → w1.heap[k]? = w.heap[k]?) : d.R e w1 base ok v xs := by
  obtain ⟨h0, inner, ho, hr⟩ := h
  exact ⟨h0, inner, own_move ho (fun k hk => hm k (h0 k hk)), hr.imp_ (fun _ _ hp => d.M_move (fun k hk => hm k hk.1) hp)⟩
theorem R_lower {base' : Nat} (h : d.R e w base ok v xs) (hb : base' ≤ base) : d.R e w base' ok v xs := by
  obtain ⟨h0, inner, ho, hr⟩ := h
  exact ⟨h0, inner, own_weaken ho hb, hr.imp_ (fun _ _ hp => d.M_lower hb hp)⟩
theorem R_reads (h : d.R e w base ok v xs) : ∃ A c, v = .slice A xs.length c ∧ xs.length ≤ c ∧ d.C w A xs.length xs := by
  obtain ⟨A, c, he, hl, hr⟩ := OwnRow.reads h.2
  exact ⟨A, c, he, hl, hr.imp_ (Below.refl _ _) (fun _ _ hp => d.K_of_M hp)⟩
end
def scalar {α : Type} (enc : α → Value) (h1 : ∀ x, (enc x).oneCell' = true) : Kd α where
  sz := 1
  E := []
  K := fun _ x cs => cs = [enc x]
  M := fun _ _ _ x cs => cs = [enc x]
  K_len := fun h => by rw [h]; rfl
  K_one := fun h u hu => by
    rw [h] at hu
    rw [List.mem_singleton.1 hu]
    exact h1 _
  K_below := fun _ h => h
  K_of_M := fun h => h
  M_mono := fun _ h => h
  M_bound := fun h => h
  M_move := fun _ h => h
  M_lower := fun _ h => h
def int (k : IntKind) : Kd Int := scalar (Value.int k) (fun _ => rfl)
def bool : Kd Bool := scalar Value.bool (fun _ => rfl)
def string : Kd ByteArray := scalar Value.string (fun _ => rfl)
def slice {α : Type} (e : Nat) (d : Kd α) : Kd (List α) where
  sz := 1
  E := e :: d.E
  K := fun w xs cs => ∃ A c, cs = [.slice A xs.length c] ∧ xs.length ≤ c ∧ d.C w A xs.length xs
  M := fun w base ok xs cs => ∃ v, cs = [v] ∧ d.R e w base ok v xs
  K_len := by
    rintro w x cs ⟨A, c, rfl, _⟩
    rfl
  K_one := by
    rintro w x cs ⟨A, c, rfl, _⟩ u hu
    rw [List.mem_singleton.1 hu]
    rfl
  K_below := by
    rintro w w1 x cs hb ⟨A, c, rfl, hl, hr⟩
    exact ⟨A, c, rfl, hl, C_below hr hb⟩
  K_of_M := by
    rintro w base ok x cs ⟨v, rfl, h⟩
    obtain ⟨A, c, rfl, hl, hr⟩ := R_reads h
    exact ⟨A, c, rfl, hl, hr⟩
  M_mono := by
    rintro w base ok ok' x cs hok ⟨v, rfl, h⟩
    exact ⟨v, rfl, R_mono h hok⟩
  M_bound := by
    rintro w base ok x cs ⟨v, rfl, h⟩
    exact ⟨v, rfl, R_bound h⟩
  M_move := by
    rintro w w1 base ok x cs hm ⟨v, rfl, h⟩
    exact ⟨v, rfl, R_move h hm⟩
  M_lower := by
    rintro w base base' ok x cs hb ⟨v, rfl, h⟩
    exact ⟨v, rfl, R_lower h hb⟩
/-- Two in line. -/
def pair {α β : Type} (a : Kd α) (b : Kd β) : Kd (α × β) where
  sz := a.sz + b.sz
  E := a.E ++ b.E
  K := fun w x cs => ∃ c0 c1, cs = c0 ++ c1 ∧ a.K w x.1 c0 ∧ b.K w x.2 c1
  M := fun w base ok x cs => ∃ c0 c1, cs = c0 ++ c1 ∧ a.M w base ok x.1 c0 ∧ b.M w base ok x.2 c1
  K_len := by
    rintro w x cs ⟨c0, c1, rfl, h0, h1⟩
    rw [List.length_append, a.K_len h0, b.K_len h1]
  K_one := by
    rintro w x cs ⟨c0, c1, rfl, h0, h1⟩ u hu
    rcases List.mem_append.1 hu with hu | hu
    · exact a.K_one h0 u hu
    · exact b.K_one h1 u hu
  K_below := by
    rintro w w1 x cs hb ⟨c0, c1, rfl, h0, h1⟩
    exact ⟨c0, c1, rfl, a.K_below hb h0, b.K_below hb h1⟩
  K_of_M := by
    rintro w base ok x cs ⟨c0, c1, rfl, h0, h1⟩
    exact ⟨c0, c1, rfl, a.K_of_M h0, b.K_of_M h1⟩
  M_mono := by
    rintro w base ok ok' x cs hok ⟨c0, c1, rfl, h0, h1⟩
    exact ⟨c0, c1, rfl, a.M_mono hok h0, b.M_mono hok h1⟩
  M_bound := by
    rintro w base ok x cs ⟨c0, c1, rfl, h0, h1⟩
    refine ⟨c0, c1, rfl, a.M_mono ?_ (a.M_bound h0), b.M_mono ?_ (b.M_bound h1)⟩
    · rintro k ⟨h2, h3, h4, q, hq, hc⟩
      exact ⟨h2, h3, h4, q, List.mem_append_left _ hq, hc⟩
    · rintro k ⟨h2, h3, h4, q, hq, hc⟩
      exact ⟨h2, h3, h4, q, List.mem_append_right _ hq, hc⟩
  M_move := by
    rintro w w1 base ok x cs hm ⟨c0, c1, rfl, h0, h1⟩
    exact ⟨c0, c1, rfl, a.M_move hm h0, b.M_move hm h1⟩
  M_lower := by
    rintro w base base' ok x cs hb ⟨c0, c1, rfl, h0, h1⟩
    exact ⟨c0, c1, rfl, a.M_lower hb h0, b.M_lower hb h1⟩
/-- A Lean structure by its fields. -/
def iso {α β : Type} (d : Kd α) (f : β → α) : Kd β where
  sz := d.sz
  E := d.E
  K := fun w x cs => d.K w (f x) cs
  M := fun w base ok x cs => d.M w base ok (f x) cs
  K_len := d.K_len
  K_one := d.K_one
  K_below := d.K_below
  K_of_M := d.K_of_M
  M_mono := d.M_mono
  M_bound := d.M_bound
  M_move := d.M_move
  M_lower := d.M_lower
/-- Nothing is of this kind: where the nesting's depth is used up. -/
def bot {α : Type} (sz : Nat) (E : List Nat) : Kd α where
  sz := sz
  E := E
  K := fun _ _ _ => False
  M := fun _ _ _ _ _ => False
  K_len := fun h => h.elim
  K_one := fun h => h.elim
  K_below := fun _ h => h
  K_of_M := fun h => h
  M_mono := fun _ h => h
  M_bound := fun h => h
  M_move := fun _ h => h
  M_lower := fun _ h => h
/-- A type nested in itself: nested at most n deep .. -/
def upto {α : Type} (F : Kd α → Kd α) (sz : Nat) (E : List Nat) : Nat → Kd α
  | 0 => bot sz E
  | n + 1 => F (upto F sz E n)
theorem C_get {α : Type} {d : Kd α} {w : World} {A : Option Addr} {n : Nat} {xs : List α} (h : d.C w A n xs) (z : α) (i : Int) (h0 : 0 ≤ i) (h1 : i < n) :
    ∃ ad c, A = some ad ∧ c.length = d.sz ∧ d.K w (xs.getD i.toNat z) c ∧ ∀ j u, c[j]? = some u → w.cell? (ad.add (i.toNat * d.sz + j)) = some u := ReadsRow.get_ h z i h0 h1
section
end
section
end
theorem reads_of_C {α : Type} {enc : α → Value} {d : α} {h1 : ∀ x, (enc x).oneCell' = true} {w : World} {A : Option Addr} {n : Nat} {xs : List α} (h : (scalar enc h1).C w A n xs) : ReadsOf enc d w A n xs := by
  refine ⟨h.1, h.2.1, fun hn => ?_⟩
  obtain ⟨ad, e, hc⟩ := h.2.2 hn
  refine ⟨ad, e, fun j hj => ?_⟩
  have hl : j < xs.length := by have := h.1; omega
  obtain ⟨c, _, hK, hcell⟩ := hc j _ (List.getElem?_eq_getElem hl)
  have hK' : c = [enc xs[j]] := hK
  subst hK'
  have := hcell 0 _ rfl
  simpa [scalar, List.getD_eq_getElem?_getD, List.getElem?_eq_getElem hl] using this
end Kd
namespace Kd
section
end
end Kd
namespace Kd
end Kd
namespace Kd
section
variable {α β : Type} {d : Kd α} {d' : Kd β} {e e' : Nat} {w w1 W : World} {base b b' : Nat} {ok ok' okv oku : Nat → Prop} {v u : Value} {xs : List α} {ys : List β}
theorem C_alloc {A : Option Addr} {n : Nat} (h : d.C w A n xs) (o : Obj) : d.C (w.alloc o) A n xs := C_below h (below_alloc (Below.refl _ _) o)
theorem C_drew {A : Option Addr} {n : Nat} (h : d.C w A n xs) : d.C w.drew A n xs := C_below h (below_drew (Below.refl _ _))
theorem C_drewN {A : Option Addr} {n : Nat} (h : d.C w A n xs) (m : Nat) : d.C (w.drewN m) A n xs := C_below h (pw_below_drewN (Below.refl _ _) m)
end
section
variable {w W : World} {A : Option Addr} {n : Nat}
theorem at_string {xs : List ByteArray} (h : Kd.string.C w A n xs) (i : Int) (h0 : 0 ≤ i) (h1 : i < n) : ∃ ad, A = some ad ∧ w.cell? (ad.add i.toNat) = some (.string (rdOf ByteArray.empty xs i)) :=
  ReadsOf.at_ (reads_of_C (enc := Value.string) (d := ByteArray.empty) (h1 := fun _ => rfl) h) i h0 h1
variable {α : Type} {enc : α → Value} {h1 : ∀ x, (enc x).oneCell' = true} {e base g cap : Nat} {ok : Nat → Prop} {xs : List α}
end
section
variable {P : Program} {ops : Array Oper} {rest : List Oper} {o : Oper} {a : Act} {Q : Exit → Act → World → Prop}
theorem event_run {W w1 : World} {v : Value} (hgd : o.guard = none) (hrun : (execOp a.eval o).run P W = .ok (.value v) w1) (h : wpList P ops Q rest (a.put o.dst v) w1) : wpList P ops Q (o :: rest) a W := by
  refine wpList_plain hgd fun K hK => ?_
  unfold Oper.wp
  rw [hrun]
  exact hK _ _ h
variable {α : Type}
end
end Kd
section
end
/-- A row of one's own that may begin inside its block. -/
def QRow (w : World) (base : Nat) (e : TypeId) (size : Nat) (v : Value) (n : Nat) (xs : List Value) : Prop :=
  xs.length = n * size ∧
  ((n = 0 ∧ ∃ A, v = .slice A 0 0 ∧ ∀ a, A = some a → base ≤ a.block ∧ ∃ cur, w.heap[a.block]? = some (.cells cur e (0, 0))) ∨
   ∃ g off cap cur, v = .slice (some ⟨g, off * size, none⟩) n cap ∧ base ≤ g ∧ w.heap[g]? = some (.cells cur e (0, 0)) ∧ n ≤ cap ∧ off + cap ≤ maxLen ∧ (off + cap) * size ≤ cur.size ∧ (cur.toList.drop (off * size)).take (n * size) = xs)
section
variable {w w1 : World} {base n size : Nat} {e : TypeId} {v : Value} {xs : List Value}
end
section
end
namespace Kd
def Q {α : Type} (d : Kd α) (e : Nat) (w : World) (base : Nat) (ok : Nat → Prop) (v : Value) (xs : List α) : Prop :=
  (∀ k, v.ownBlock = some k → ok k) ∧ ∃ inner, QRow w base e d.sz v xs.length inner ∧ Reps (d.M w base (fun k => ok k ∧ some k ≠ v.ownBlock)) d.sz xs inner
section
end
section
end
end Kd
namespace Kd
section
variable {α : Type} {d : Kd α} {e e' : Nat} {w w1 W : World} {base : Nat} {ok : Nat → Prop} {u v : Value} {xs : List α}
end
end Kd
namespace Kd
section
variable {α : Type} {d : Kd α} {e base g n cap : Nat} {ok okp : Nat → Prop} {W : World} {xs : List α}
end
end Kd
namespace Kd
section
end
end Kd
namespace Kd
section
end
end Kd
namespace Kd
section
end
end Kd
namespace Kd
section
end
end Kd
section
end
theorem below_size {w W : World} (h : Below w.heap.size w W) : w.heap.size ≤ W.heap.size := h.size
theorem below_step {w W w2 : World} (h : Below w.heap.size w W) (k : Below W.heap.size W w2) : Below w.heap.size w w2 := below_then h h.size k
theorem ReadsInt.drewN {W : World} {k : IntKind} {A : Option Addr} {n : Nat} {xs : List Int} (h : ReadsInt W k A n xs) (m : Nat) : ReadsInt (W.drewN m) k A n xs := h
theorem below_set {w W : World} {g j : Nat} {v : Value} (h : Below w.heap.size w W) (hg : w.heap.size ≤ g) : Below w.heap.size w (W.setCell ⟨g, j, none⟩ v) := h.setCell hg _
theorem ReadsOf.drewN {α : Type} {enc : α → Value} {d : α} {W : World} {A : Option Addr} {n : Nat} {xs : List α} (h : ReadsOf enc d W A n xs) (m : Nat) : ReadsOf enc d (W.drewN m) A n xs := h
theorem below_drew1 {base : Nat} {w W : World} (h : Below base w W) : Below base w W.drew := h.drew
namespace Kd
section
end
section
end
end Kd
namespace Kd
section
end
end Kd
section
variable {P : Program} {ops : Array Oper} {rest : List Oper} {o : Oper} {a : Act} {Q : Exit → Act → World → Prop}
theorem box_event {W : World} (hgd : o.guard = none) {N : Tmp} (_hd : o.dst = some N) {cs : Array Value} {t : TypeId}
    (hrun : (execOp a.eval o).run P W = .ok (.value (.pointer (some ⟨W.heap.size, 0, none⟩))) (W.alloc (.cells cs t (0, 0))))
    (h : ∀ g, g = W.heap.size → ∀ w1, w1.heap[g]? = some (.cells cs t (0, 0)) → Below W.heap.size W w1 → wpList P ops Q rest (a.put o.dst (.pointer (some ⟨g, 0, none⟩))) w1) : wpList P ops Q (o :: rest) a W :=
  Kd.event_run hgd hrun (h _ rfl _ (blk_new W _) (below_alloc (Below.refl _ _) _))
end
namespace Kd
section
variable {α : Type} {enc : α → Value} {h1 : ∀ x, (enc x).oneCell' = true} {e base g n cap : Nat} {ok : Nat → Prop} {W : World} {xs : List α}
end
end Kd
section
variable {P : Program} {ops : Array Oper} {rest : List Oper} {o : Oper} {a : Act} {Q : Exit → Act → World → Prop}
end
namespace Kd
section
variable {α : Type} {enc : α → Value} {h1 : ∀ x, (enc x).oneCell' = true} {e base g n cap : Nat} {ok : Nat → Prop} {W : World} {xs : List α}
end
end Kd
section
variable {P : Program} {ops : Array Oper} {rest : List Oper} {o : Oper} {a : Act} {Q : Exit → Act → World → Prop} {W : World}
theorem gate_dst {N : Tmp} (_hN : o.dst = some N) (h : wpList P ops Q (o :: rest) a W) : wpList P ops Q (o :: rest) a W := h
end
section
namespace Kd
end Kd
end
section
end
namespace Kd
section
end
section
end
end Kd
end Go.Proofs.YtldjfonpegffiaaW.PrintWords
end

section
namespace Go.Proofs.YtldjfonpegffiaaW.PrintLast
section
variable {P : Program} {ops : Array Oper} {Q : Exit → Act → World → Prop} {md : Region.Mode} {S : World → Prop} {ds : List Nat}
def ListedClosed (md : Region.Mode) (ops : Array Oper) (listed : Array Bool) : Prop :=
  ∀ j oj, ops[j]? = some oj → listed.getD j false = true → ∀ e ∈ oj.after, Region.binds md e = true → listed.getD e.on false = true
theorem ListedClosed.set {listed : Array Bool} {i : Nat} (h : ListedClosed md ops listed) (hi : i ∈ Region.ready md ops listed) : ListedClosed md ops (listed.setIfInBounds i true) := by
  obtain ⟨_, oi, hoi, hall⟩ := mem_ready.1 hi
  intro j oj hj hl e he hb
  by_cases hij : i = j
  · subst hij
    have : oj = oi := Option.some.inj (hj.symm.trans hoi)
    subst this
    exact getD_set_true (hall e he hb)
  · rw [getD_set_ne false hij] at hl
    exact getD_set_true (h j oj hj hl e he hb)
end
section
variable {P : Program} {ops : Array Oper} {Q : Exit → Act → World → Prop} {md : Region.Mode} {S : World → Prop} {ds : List Nat}
theorem enters_ {f : FuncId} {fn : Func} (hf : P.funcs[f]? = some fn) (hname : (fn.name == "runtime.NumGoroutine") = false) (hb : fn.body.isSome = true) (args : Array Value) (w : World) : (callFunc f args).run P w = .ok (.enter f args) w := by
  have h1 : fn.name ≠ "runtime.NumGoroutine" := by simpa using hname
  obtain ⟨c, hc⟩ := Option.isSome_iff_exists.1 hb
  simp [callFunc, hf, h1, hc]
/-- A call in a plain region, as an arm of go_wp2_with ('hd' first: it fails at once at another operation). -/
theorem goesL_ {rest : List Oper} {oi : Oper} {a : Act} {w : World} (N : Option Tmp) (hd : oi.dst = N) (hg : oi.guard = none) {f : FuncId} {fn : Func} {as_ : Array Operand} {ts : Array TypeId} (hf : P.funcs[f]? = some fn) (hname : (fn.name == "runtime.NumGoroutine") = false) (hb : fn.body.isSome = true) (args : Array Value)
    (hop : oi.op = .call { callee := .value (.func f), args := as_, argTypes := ts }) (hargs : as_.map a.eval = args)
    (h : Calls P f args w fun e w' => ∃ v, e = .returned v ∧ wpList P ops Q rest (a.put N v) w') : wpList P ops Q (oi :: rest) a w := by
  refine wpList_plain hg fun K hK => ?_
  have he := enters_ hf hname hb args w
  have hrun : (execOp a.eval oi).run P w = .ok (.enter f args) w := by
    unfold execOp
    simp [hop, resolve, Deferred.ofValue, invoke, Act.eval, hargs, he]
  unfold Oper.wp
  rw [hrun, Oper.upon_enter]
  refine h.mono fun e w'' hh => ?_
  obtain ⟨v, rfl, hk⟩ := hh
  subst hd
  exact hK _ _ hk
end
end Go.Proofs.YtldjfonpegffiaaW.PrintLast
namespace Go.Proofs.YtldjfonpegffiaaW.PrintLast
open Go.Proofs.YtldjfonpegffiaaW.PrintWords (Aside0)
section
variable {md : Region.Mode} {ops : Array Oper} {T : Bool × List (List Nat × List Nat)} {l l' li lj lk : Array Bool} {ds : List Nat} {i j k : Nat}
end
end Go.Proofs.YtldjfonpegffiaaW.PrintLast
namespace Go.Proofs.YtldjfonpegffiaaW.PrintWords
open Go.RowKit
namespace Kd
/-- An element with its index: its blocks are those that f gives to it. -/
def tag {α : Type} (f : Nat → Nat) (d : Kd α) : Kd (α × Nat) where
  sz := d.sz
  E := d.E
  K := fun w x cs => d.K w x.1 cs
  M := fun w base ok x cs => d.M w base (fun k => ok k ∧ f k = x.2) x.1 cs
  K_len := fun h => d.K_len h
  K_one := fun h => d.K_one h
  K_below := fun hb h => d.K_below hb h
  K_of_M := fun h => d.K_of_M h
  M_mono := fun hok h => d.M_mono (fun k hk => ⟨hok k hk.1, hk.2⟩) h
  M_bound := fun h => d.M_mono (fun _ hk => ⟨⟨hk.1.1, hk.2⟩, hk.1.2⟩) (d.M_bound h)
  M_move := fun hm h => d.M_move (fun k hk => hm k hk.1) h
  M_lower := fun hb h => d.M_lower hb h
/-- The cells themselves. -/
def raw (sz : Nat) : Kd (List Value) where
  sz := sz
  E := []
  K := fun _ x cs => cs = x ∧ cs.length = sz ∧ ∀ u ∈ cs, u.oneCell' = true
  M := fun _ _ _ x cs => cs = x ∧ cs.length = sz ∧ ∀ u ∈ cs, u.oneCell' = true
  K_len := fun h => h.2.1
  K_one := fun h => h.2.2
  K_below := fun _ h => h
  K_of_M := fun h => h
  M_mono := fun _ h => h
  M_bound := fun h => h
  M_move := fun _ h => h
  M_lower := fun _ h => h
/-- A row of elements (type e) of the call's own, no two of which lead to one block. -/
def S {α : Type} (d : Kd α) (e : Nat) (w : World) (base : Nat) (ok : Nat → Prop) (v : Value) (xs : List α) : Prop := ∃ f, (tag f d).R e w base ok v xs.zipIdx
section
end
section
end
section
end
/-- Element i is these cells; the others are d's. -/
def gap {α : Type} (f : Nat → Nat) (d : Kd α) (i : Nat) (c : List Value) : Kd (α × Nat) where
  sz := d.sz
  E := d.E
  K := fun w x cs => (x.2 = i → cs = c ∧ cs.length = d.sz ∧ ∀ u ∈ cs, u.oneCell' = true) ∧ (x.2 ≠ i → d.K w x.1 cs)
  M := fun w base ok x cs => (x.2 = i → cs = c ∧ cs.length = d.sz ∧ ∀ u ∈ cs, u.oneCell' = true) ∧ (x.2 ≠ i → d.M w base (fun k => ok k ∧ f k = x.2) x.1 cs)
  K_len := fun {w x cs} h => by
    by_cases hx : x.2 = i
    · exact (h.1 hx).2.1
    · exact d.K_len (h.2 hx)
  K_one := fun {w x cs} h => by
    by_cases hx : x.2 = i
    · exact (h.1 hx).2.2
    · exact d.K_one (h.2 hx)
  K_below := fun hb h => ⟨h.1, fun hx => d.K_below hb (h.2 hx)⟩
  K_of_M := fun h => ⟨h.1, fun hx => d.K_of_M (h.2 hx)⟩
  M_mono := fun hok h => ⟨h.1, fun hx => d.M_mono (fun k hk => ⟨hok k hk.1, hk.2⟩) (h.2 hx)⟩
  M_bound := fun h => ⟨h.1, fun hx => d.M_mono (fun _ hk => ⟨⟨hk.1.1, hk.2⟩, hk.1.2⟩) (d.M_bound (h.2 hx))⟩
  M_move := fun hm h => ⟨h.1, fun hx => d.M_move (fun k hk => hm k hk.1) (h.2 hx)⟩
  M_lower := fun hb h => ⟨h.1, fun hx => d.M_lower hb (h.2 hx)⟩
def H {α : Type} (d : Kd α) (e : Nat) (w : World) (base : Nat) (ok : Nat → Prop) (v : Value) (xs : List α) (i : Int) (oki : Nat → Prop) (c : List Value) : Prop :=
  (∀ k, oki k → ok k) ∧ ∃ f, (gap f d i.toNat c).R e w base (fun k => ok k ∧ ¬ oki k) v xs.zipIdx
section
end
section
end
end Kd
end Go.Proofs.YtldjfonpegffiaaW.PrintWords
namespace Go.Proofs.YtldjfonpegffiaaW.PrintWords
open Go.RowKit
namespace Kd
/-- What a kind reads lies in the blocks: nothing else of the world is looked at. -/
structure Heap {α : Type} (d : Kd α) : Prop where
  K : ∀ {w w1 : World} {x : α} {cs : List Value}, (∀ k, k < w.heap.size → w1.heap[k]? = w.heap[k]?) → d.K w x cs → d.K w1 x cs
theorem cell_heap {w w1 : World} (hb : ∀ k, k < w.heap.size → w1.heap[k]? = w.heap[k]?) {a : Addr} {v : Value} (h : w.cell? a = some v) : w1.cell? a = some v := by
  have := hb a.block (World.block_lt_of_cell? w a h)
  simpa [World.cell?, this] using h
theorem Heap.C {α : Type} {d : Kd α} (hd : Heap d) {w w1 : World} {A : Option Addr} {n : Nat} {xs : List α} (hb : ∀ k, k < w.heap.size → w1.heap[k]? = w.heap[k]?) (h : d.C w A n xs) : d.C w1 A n xs :=
  ⟨h.1, h.2.1, fun hn => by
    obtain ⟨ad, e, hc⟩ := h.2.2 hn
    refine ⟨ad, e, fun j p hj => ?_⟩
    obtain ⟨c, hs, hr, hcell⟩ := hc j p hj
    exact ⟨c, hs, hd.K hb hr, fun i u hu => cell_heap hb (hcell i u hu)⟩⟩
section
end
end Kd
end Go.Proofs.YtldjfonpegffiaaW.PrintWords
namespace Go.Proofs.YtldjfonpegffiaaW.PrintWords
open Go.RowKit
def Kept (w W : World) (S : Nat → Prop) : Prop := w.heap.size ≤ W.heap.size ∧ ∀ i, i < w.heap.size → ¬ S i → W.heap[i]? = w.heap[i]?
section
variable {w W W2 : World} {S S2 S' : Nat → Prop}
theorem Kept.of_below (h : Below w.heap.size w W) (S : Nat → Prop) : Kept w W S := ⟨h.size, fun i hi _ => h.block i hi⟩
theorem Kept.then_ (h : Kept w W S) (k : Kept W W2 S2) (hs : ∀ k, S2 k → S k ∨ w.heap.size ≤ k) : Kept w W2 S :=
  ⟨Nat.le_trans h.1 k.1, fun i hi hn => (k.2 i (Nat.lt_of_lt_of_le hi h.1) (fun h2 => (hs i h2).elim hn (fun h3 => by omega))).trans (h.2 i hi hn)⟩
theorem Kept.below (h : Kept w W S) (hb : Below W.heap.size W W2) : Kept w W2 S := h.then_ (Kept.of_below hb (fun _ => False)) (fun _ hk => hk.elim)
theorem Kept.alloc (h : Kept w W S) (o : Obj) : Kept w (W.alloc o) S := h.below (below_alloc (Below.refl _ _) o)
theorem Kept.drewN (h : Kept w W S) (m : Nat) : Kept w (W.drewN m) S := h
theorem Kept.setCell (h : Kept w W S) {p : Addr} (hp : S p.block ∨ w.heap.size ≤ p.block) (u : Value) : Kept w (W.setCell p u) S :=
  h.then_ (S2 := fun k => k = p.block) ⟨by simp [World.setCell], fun i _ hn => Below.heap_setCell W p u i hn⟩ (fun k hk => by rw [hk]; exact hp)
theorem cell_kept {a : Addr} {v : Value} (hc : W.cell? a = some v) (hk : Kept W W2 S) (hne : ¬ S a.block) : W2.cell? a = some v := by
  have := hk.2 a.block (World.block_lt_of_cell? W a hc) hne
  simpa [World.cell?, this] using hc
end
namespace Kd
section
end
end Kd
end Go.Proofs.YtldjfonpegffiaaW.PrintWords
namespace Go.Proofs.YtldjfonpegffiaaW.PrintWords
open Go.RowKit
/-- P holds in W and in every world that has W's blocks of ok. -/
def Foot (P : World → Prop) (W : World) (ok : Nat → Prop) : Prop := ∀ W' : World, (∀ k, ok k → k < W.heap.size → W'.heap[k]? = W.heap[k]?) → P W'
theorem heap_lt {W W1 : World} {k : Nat} (h : W1.heap[k]? = W.heap[k]?) (hlt : k < W.heap.size) : k < W1.heap.size := by
  rw [Array.getElem?_eq_getElem hlt] at h
  exact (Array.getElem?_eq_some_iff.1 h).1
namespace Foot
variable {P Q : World → Prop} {W W1 : World} {ok ok' : Nat → Prop}
theorem mono (h : Foot P W ok) (hok : ∀ k, ok k → ok' k) : Foot P W ok' := fun W' hW => h W' (fun k hk hlt => hW k (hok k hk) hlt)
theorem step (h : Foot P W ok) (hm : ∀ k, ok k → k < W.heap.size → W1.heap[k]? = W.heap[k]?) : Foot P W1 ok := fun W' hW => h W' (fun k hk hlt => (hW k hk (heap_lt (hm k hk hlt) hlt)).trans (hm k hk hlt))
end Foot
namespace Kd
/-- A row that is only read: what it leads to lies in ok. -/
def F {α : Type} (d : Kd α) (W : World) (ok : Nat → Prop) (A : Option Addr) (n : Nat) (xs : List α) : Prop := Foot (fun W => d.C W A n xs) W ok
/-- An element's cells: what they lead to lies in ok. -/
def FK {α : Type} (d : Kd α) (W : World) (ok : Nat → Prop) (x : α) (c : List Value) : Prop := Foot (fun W => d.K W x c) W ok
section
end
end Kd
end Go.Proofs.YtldjfonpegffiaaW.PrintWords
namespace Go.Proofs.YtldjfonpegffiaaW.PrintWords
open Go.RowKit
namespace Kd
section
variable {α : Type} {d : Kd α} {e base n cc g : Nat} {ok ok' okp S : Nat → Prop} {w w1 W W1 : World} {A : Option Addr} {u v v1 : Value} {xs : List α} {x : α} {c : List Value}
/-- A row of elements (type e) of the call's own; what the elements lead to is only read, and is not this row. -/
def N {α : Type} (d : Kd α) (e : Nat) (w : World) (base : Nat) (ok : Nat → Prop) (v : Value) (xs : List α) : Prop :=
  (∀ k, v.ownBlock = some k → ok k) ∧ ∃ rows : List (List Value), rows.length = xs.length ∧ (raw d.sz).R e w base (fun k => some k = v.ownBlock) v rows ∧ ∀ (j : Nat) (x : α) (c : List Value), xs[j]? = some x → rows[j]? = some c → FK d w (fun k => ok k ∧ some k ≠ v.ownBlock) x c
end
end Kd
end Go.Proofs.YtldjfonpegffiaaW.PrintWords
namespace Go.Proofs.YtldjfonpegffiaaW.PrintWords
open Go.RowKit
section
variable {P : Program} {ops : Array Oper} {rest : List Oper} {o : Oper} {a : Act} {Q : Exit → Act → World → Prop} {W : World}
/-- The gate takes the guard off (hw: 'by rfl', 'by kernel_rfl': the guard's slot holds what is wanted). -/
theorem gate_guard (hw : Region.wanted o (yielded ops a.tmps) = true) (h : wpList P ops Q ({ o with guard := none } :: rest) a W) : wpList P ops Q (o :: rest) a W := by
  have h1 : Region.wanted { o with guard := none } (yielded ops a.tmps) = true := rfl
  unfold wpList at h ⊢
  rw [if_pos h1] at h
  rw [if_pos hw]
  exact h
end
end Go.Proofs.YtldjfonpegffiaaW.PrintWords
namespace Go.Proofs.YtldjfonpegffiaaW.PrintMore
open Go.RowKit Go.Proofs.YtldjfonpegffiaaW.PrintWords
namespace Kd
open Go.Proofs.YtldjfonpegffiaaW.PrintWords.Kd
end Kd
namespace Kd
open Go.Proofs.YtldjfonpegffiaaW.PrintWords.Kd
section
end
end Kd
/-- 'max' and 'min' of two whole numbers. -/
theorem max2_int (k k' : IntKind) (x y : Int) : Builtin.max2 (.int k x) (.int k' y) = pure (.int k (if x < y then y else x)) := by simp only [Builtin.max2, gt_iff_lt]
theorem min2_int (k k' : IntKind) (x y : Int) : Builtin.min2 (.int k x) (.int k' y) = pure (.int k (if y < x then y else x)) := by simp only [Builtin.min2]
theorem max_two (ats : Array TypeId) (ty : TypeId) (a b : Value) : Builtin.max_ ats ty #[a, b] = (Builtin.max2 a b >>= fun s => pure s) := by simp only [Builtin.max_, List.foldlM_cons, List.foldlM_nil]
theorem min_two (ats : Array TypeId) (ty : TypeId) (a b : Value) : Builtin.min_ ats ty #[a, b] = (Builtin.min2 a b >>= fun s => pure s) := by simp only [Builtin.min_, List.foldlM_cons, List.foldlM_nil]
theorem max_three (ats : Array TypeId) (ty : TypeId) (a b c : Value) : Builtin.max_ ats ty #[a, b, c] = (Builtin.max2 a b >>= fun s => Builtin.max2 s c >>= fun s => pure s) := by simp only [Builtin.max_, List.foldlM_cons, List.foldlM_nil]
theorem min_three (ats : Array TypeId) (ty : TypeId) (a b c : Value) : Builtin.min_ ats ty #[a, b, c] = (Builtin.min2 a b >>= fun s => Builtin.min2 s c >>= fun s => pure s) := by simp only [Builtin.min_, List.foldlM_cons, List.foldlM_nil]
theorem max_four (ats : Array TypeId) (ty : TypeId) (a b c d : Value) : Builtin.max_ ats ty #[a, b, c, d] = (Builtin.max2 a b >>= fun s => Builtin.max2 s c >>= fun s => Builtin.max2 s d >>= fun s => pure s) := by simp only [Builtin.max_, List.foldlM_cons, List.foldlM_nil]
theorem min_four (ats : Array TypeId) (ty : TypeId) (a b c d : Value) : Builtin.min_ ats ty #[a, b, c, d] = (Builtin.min2 a b >>= fun s => Builtin.min2 s c >>= fun s => Builtin.min2 s d >>= fun s => pure s) := by simp only [Builtin.min_, List.foldlM_cons, List.foldlM_nil]
end Go.Proofs.YtldjfonpegffiaaW.PrintMore
namespace Go.Proofs.YtldjfonpegffiaaW.PrintWords
open Go.RowKit
section
variable {P : Program} {ops : Array Oper} {rest : List Oper} {o : Oper} {a : Act} {Q : Exit → Act → World → Prop} {W : World}
/-- The operation is a call of this function (a cheap look ahead of a dear step). -/
theorem gate_callee {f : FuncId} {as_ : Array Operand} {ts : Array TypeId} (_ho : o.op = .call { callee := .value (.func f), args := as_, argTypes := ts }) (h : wpList P ops Q (o :: rest) a W) : wpList P ops Q (o :: rest) a W := h
end
namespace Kd
section
end
section
end
section
end
end Kd
end Go.Proofs.YtldjfonpegffiaaW.PrintWords
namespace Go.Proofs.YtldjfonpegffiaaW.PrintWords
open Go.RowKit
namespace Kd
section
end
end Kd
end Go.Proofs.YtldjfonpegffiaaW.PrintWords
end

section
namespace Go.Proofs.Ytldjfonpegffiaa.Q
open Go.RowKit Go.Proofs.YtldjfonpegffiaaW.PrintWords Go.Proofs.YtldjfonpegffiaaW.PrintLast Go.Proofs.YtldjfonpegffiaaW.PrintMore
attribute [local go_sem] max2_int min2_int max_two min_two max_three min_three max_four min_four   -- for this text's walks alone
set_option linter.unusedVariables false
set_option linter.unusedSimpArgs false
def errW : Option Int → Value
  | none => .nilIface
  | some c => .iface 0 (.int .i64 c)
theorem errW_none : errW none = .nilIface := rfl
theorem errW_some (c : Int) : errW (some c) = .iface 0 (.int .i64 c) := rfl
structure S54 where
  f0 : Int
  f1 : ByteArray
def z54 : S54 := ⟨(0 : Int), (⟨#[]⟩ : ByteArray)⟩
def k54 : Kd S54 := Kd.iso (Kd.pair (Kd.int .i64) Kd.string) (fun x : S54 => (x.f0, x.f1))
theorem k54_open {w : World} {x : S54} {cs : List Value} (h : k54.K w x cs) : cs = [.int .i64 x.f0, .string x.f1] := by
  obtain ⟨_, _, rfl, rfl, rfl⟩ := h
  exact rfl
def rd_T54 (xs : List S54) (i : Int) : S54 := xs.getD i.toNat z54
theorem at_T54 {w : World} {A : Option Addr} {n : Nat} {xs : List S54} (h : Kd.C k54 w A n xs) (i : Int) (h0 : 0 ≤ i) (h1 : i < n) : ∃ ad , A = some ad ∧ w.cell? (ad.add (i.toNat * 2)) = some (.int .i64 (rd_T54 xs i).f0) ∧ w.cell? ⟨(ad.add (i.toNat * 2)).block, (ad.add (i.toNat * 2)).off + 1, none⟩ = some (.string (rd_T54 xs i).f1) := by
  obtain ⟨ad, c, e, _, hK, hc0⟩ := Kd.C_get h z54 i h0 h1
  have hc : ∀ j u, c[j]? = some u → w.cell? (ad.add (i.toNat * 2 + j)) = some u := hc0
  obtain rfl := k54_open hK
  exact ⟨ad, e, hc 0 _ rfl, by rw [← add_field _ _ 1 (by omega)]; exact hc 1 _ rfl⟩
end Go.Proofs.Ytldjfonpegffiaa.Q
namespace Go.Proofs.Ytldjfonpegffiaa.Q
open Go.RowKit Go.Proofs.YtldjfonpegffiaaW.PrintWords Go.Proofs.YtldjfonpegffiaaW.PrintLast Go.Proofs.YtldjfonpegffiaaW.PrintMore
attribute [local go_sem] max2_int min2_int max_two min_two max_three min_three max_four min_four   -- for this text's walks alone
set_option linter.unusedVariables false
set_option linter.unusedSimpArgs false
end Go.Proofs.Ytldjfonpegffiaa.Q
namespace Go.Proofs.Ytldjfonpegffiaa.Q
open Go.RowKit Go.Proofs.YtldjfonpegffiaaW.PrintWords Go.Proofs.YtldjfonpegffiaaW.PrintLast Go.Proofs.YtldjfonpegffiaaW.PrintMore
attribute [local go_sem] max2_int min2_int max_two min_two max_three min_three max_four min_four   -- for this text's walks alone
set_option linter.unusedVariables false
set_option linter.unusedSimpArgs false
end Go.Proofs.Ytldjfonpegffiaa.Q
namespace Go.Proofs.Ytldjfonpegffiaa.Q
open Go.RowKit Go.Proofs.YtldjfonpegffiaaW.PrintWords Go.Proofs.YtldjfonpegffiaaW.PrintLast Go.Proofs.YtldjfonpegffiaaW.PrintMore
attribute [local go_sem] max2_int min2_int max_two min_two max_three min_three max_four min_four   -- for this text's walks alone
set_option linter.unusedVariables false
set_option linter.unusedSimpArgs false
end Go.Proofs.Ytldjfonpegffiaa.Q
end

section
namespace Go.Proofs.Ytldjfonpegffiaa.Q
open Go.RowKit Go.Proofs.YtldjfonpegffiaaW.PrintWords Go.Proofs.YtldjfonpegffiaaW.PrintLast Go.Proofs.YtldjfonpegffiaaW.PrintMore
attribute [local go_sem] max2_int min2_int max_two min_two max_three min_three max_four min_four   -- for this text's walks alone
set_option linter.unusedVariables false
set_option linter.unusedSimpArgs false
end Go.Proofs.Ytldjfonpegffiaa.Q
namespace Go.Proofs.Ytldjfonpegffiaa.Q
open Go.RowKit Go.Proofs.YtldjfonpegffiaaW.PrintWords Go.Proofs.YtldjfonpegffiaaW.PrintLast Go.Proofs.YtldjfonpegffiaaW.PrintMore
attribute [local go_sem] max2_int min2_int max_two min_two max_three min_three max_four min_four   -- for this text's walks alone
set_option linter.unusedVariables false
set_option linter.unusedSimpArgs false
def impl_DiskOk_1.f (a0 : ByteArray) : Option (Bool) := some (decide ((a0.size : Int) > 1200))
set_option maxHeartbeats 8000000 in
set_option maxRecDepth 100000 in
theorem impl_DiskOk_1.calls (a0 : ByteArray) (r : Bool) (w : World) (h : impl_DiskOk_1.f a0 = some r) :
    Calls Try.prog 69 #[.string a0] w fun e w' => e = .returned (.bool r) ∧ Drawn0 w w' := by
  have H : (some (decide ((a0.size : Int) > 1200))) = some r := h
  clear h
  obtain rfl := Option.some.inj H
  go_enter Try.func69, Try.ntmps69
  go_wp2
  go_ret
  exact ⟨by first | rfl | (simp; done) | (simp [*]; done), by repeat (first | exact Drawn0.refl _ | apply Drawn0.step)⟩
end Go.Proofs.Ytldjfonpegffiaa.Q
namespace Go.Proofs.Ytldjfonpegffiaa.Q
open Go.RowKit Go.Proofs.YtldjfonpegffiaaW.PrintWords Go.Proofs.YtldjfonpegffiaaW.PrintLast Go.Proofs.YtldjfonpegffiaaW.PrintMore
attribute [local go_sem] max2_int min2_int max_two min_two max_three min_three max_four min_four   -- for this text's walks alone
set_option linter.unusedVariables false
set_option linter.unusedSimpArgs false
def impl_in.f (a0 : Int) (a1 : Int) (a2 : Int) : Option (Bool) := if a0 ≥ a1 then (some (decide (a0 ≤ a2))) else (some false)
set_option maxHeartbeats 8000000 in
set_option maxRecDepth 100000 in
theorem impl_in.calls (a0 : Int) (a1 : Int) (a2 : Int) (r : Bool) (w : World) (h : impl_in.f a0 a1 a2 = some r) :
    Calls Try.prog 106 #[.int .i64 a0, .int .i64 a1, .int .i64 a2] w fun e w' => e = .returned (.bool r) ∧ Drawn0 w w' := by
  have H : (if a0 ≥ a1 then (some (decide (a0 ≤ a2))) else (some false)) = some r := h
  clear h
  by_cases c4 : a0 ≥ a1
  · rw [if_pos c4] at H
    have c4b0 : decide (a1 ≤ a0) = true := decide_eq_true c4
    clear c4
    obtain rfl := Option.some.inj H
    go_enter Try.func106, Try.ntmps106
    go_wp2
    go_ret
    exact ⟨by first | rfl | (simp; done) | (simp [*]; done), by repeat (first | exact Drawn0.refl _ | apply Drawn0.step)⟩
  · rw [if_neg c4] at H
    have c4b0 : decide (a1 ≤ a0) = false := decide_eq_false c4
    clear c4
    obtain rfl := Option.some.inj H
    go_enter Try.func106, Try.ntmps106
    go_wp2
    go_ret
    exact ⟨by first | rfl | (simp; done) | (simp [*]; done), by repeat (first | exact Drawn0.refl _ | apply Drawn0.step)⟩
end Go.Proofs.Ytldjfonpegffiaa.Q
namespace Go.Proofs.Ytldjfonpegffiaa.Q
open Go.RowKit Go.Proofs.YtldjfonpegffiaaW.PrintWords Go.Proofs.YtldjfonpegffiaaW.PrintLast Go.Proofs.YtldjfonpegffiaaW.PrintMore
attribute [local go_sem] max2_int min2_int max_two min_two max_three min_three max_four min_four   -- for this text's walks alone
set_option linter.unusedVariables false
set_option linter.unusedSimpArgs false
def impl_isCell.f (a0 : Int) : Option (Bool) := (impl_in.f a0 0 41).bind fun t301 => (some t301)
set_option maxHeartbeats 8000000 in
set_option maxRecDepth 100000 in
theorem impl_isCell.calls (a0 : Int) (r : Bool) (w : World) (h : impl_isCell.f a0 = some r) :
    Calls Try.prog 72 #[.int .i64 a0] w fun e w' => e = .returned (.bool r) ∧ Drawn0 w w' := by
  have H : ((impl_in.f a0 0 41).bind fun t301 => (some t301)) = some r := h
  clear h
  replace H := Option.bind_eq_some_iff.mp H
  obtain ⟨t301, A20, H⟩ := H
  replace H : (some t301) = some r := H
  have A2 := Aside0.mk A20
  clear A20
  obtain rfl := Option.some.inj H
  go_enter Try.func72, Try.ntmps72
  go_wp2_with (first | ((with_reducible refine gate_callee (f := 106) rfl ?_); refine goesL_ (some 4) rfl rfl Try.func106 (by kernel_rfl) rfl #[.int .i64 a0, .int .i64 0, .int .i64 41] rfl (by (try simp only [List.map_toArray, List.map_cons, List.map_nil]); first | done | rfl | (simp only [List.length_drop, List.length_take]; rfl)) ?_; (with_reducible refine (impl_in.calls a0 0 41 t301 _ A2.out).mono ?_); rintro e w' ⟨rfl, ⟨nd, rfl⟩⟩; refine ⟨_, rfl, ?_⟩))
  go_ret
  exact ⟨by first | rfl | (simp; done) | (simp [*]; done), by repeat (first | exact Drawn0.refl _ | apply Drawn0.step)⟩
end Go.Proofs.Ytldjfonpegffiaa.Q
namespace Go.Proofs.Ytldjfonpegffiaa.Q
open Go.RowKit Go.Proofs.YtldjfonpegffiaaW.PrintWords Go.Proofs.YtldjfonpegffiaaW.PrintLast Go.Proofs.YtldjfonpegffiaaW.PrintMore
attribute [local go_sem] max2_int min2_int max_two min_two max_three min_three max_four min_four   -- for this text's walks alone
set_option linter.unusedVariables false
set_option linter.unusedSimpArgs false
def impl_DiskOk_2.f (a0_0 : Int) (a0_1 : ByteArray) : Option (Bool) := (impl_isCell.f a0_0).bind fun t303 => (if t303 = true then (some (decide ((a0_1.size : Int) > 1200))) else (some true))
set_option maxHeartbeats 8000000 in
set_option maxRecDepth 100000 in
theorem impl_DiskOk_2.calls (a0_0 : Int) (a0_1 : ByteArray) (r : Bool) (w : World) (h : impl_DiskOk_2.f a0_0 a0_1 = some r) :
    Calls Try.prog 71 #[.agg #[.int .i64 a0_0, .string a0_1]] w fun e w' => e = .returned (.bool r) ∧ Below w.heap.size w w' := by
  have hu54 := Try.underlying54
  have HB := Aside0.mk (Below.refl w.heap.size w)
  have H : ((impl_isCell.f a0_0).bind fun t303 => (if t303 = true then (some (decide ((a0_1.size : Int) > 1200))) else (some true))) = some r := h
  clear h
  replace H := Option.bind_eq_some_iff.mp H
  obtain ⟨t303, A20, H⟩ := H
  replace H : (if t303 = true then (some (decide ((a0_1.size : Int) > 1200))) else (some true)) = some r := H
  have A2 := Aside0.mk A20
  clear A20
  by_cases c3 : t303 = true
  · subst c3
    have H1 : (some (decide ((a0_1.size : Int) > 1200))) = some r := by rw [if_pos rfl] at H; exact H
    clear H
    have H := H1
    clear H1
    obtain rfl := Option.some.inj H
    go_enter Try.func71, Try.ntmps71
    go_wp2_with (first | ((with_reducible refine gate_dst (N := 1) rfl ?_); (try (refine gate_guard (by rfl) ?_; dsimp only)); refine box_event ?hg (N := 1) ?hd (cs := #[.int .i64 a0_0, .string a0_1]) (t := 54) ?hr ?_; (case hd => rfl); (case hg => rfl); (case hr => first | (go_simp; done) | (go_simp; rfl)); intro gb302 hg w4 hbox hb; have n0_ := Aside0.mk (below_step (by repeat (first | (with_reducible first | exact HB.out | apply below_alloc | apply pw_below_drewN | apply below_drew1) | exact HB.out)) hb); have n1_ := Aside0.mk (hbox); have n2_ := Aside0.mk ((by rw [hg]; exact (below_size (by repeat (first | (with_reducible first | exact HB.out | apply below_alloc | apply pw_below_drewN | apply below_drew1) | exact HB.out))) : w.heap.size ≤ gb302)); have n3_ := Aside0.mk ((by rw [hg]; exact (below_size (by repeat (first | (with_reducible first | exact HB.out | apply below_alloc | apply pw_below_drewN | apply below_drew1) | exact HB.out))) : w.heap.size ≤ gb302)); clear HB; have HB := n0_; have BK302 := n1_; have GW302 := n2_; have GE302 := n3_; clear n0_ n1_ n2_ n3_; clear hb hbox hg; have hcz5_0 : w4.cell? ⟨gb302, 0, none⟩ = some (.int .i64 a0_0) := (blk_cell BK302.out 0).trans rfl; have hcz5_1 : w4.cell? ⟨gb302, 1, none⟩ = some (.string a0_1) := (blk_cell BK302.out 1).trans rfl; have hfz5_0 := blk_frozen BK302.out 0; have hfz5_1 := blk_frozen BK302.out 1) | ((with_reducible refine gate_callee (f := 72) rfl ?_); refine goesL_ (some 5) rfl rfl Try.func72 (by kernel_rfl) rfl #[.int .i64 a0_0] rfl (by (try simp only [List.map_toArray, List.map_cons, List.map_nil]); first | done | rfl | (simp only [List.length_drop, List.length_take]; rfl)) ?_; (with_reducible refine (impl_isCell.calls a0_0 true _ A2.out).mono ?_); rintro e w' ⟨rfl, ⟨nd, rfl⟩⟩; refine ⟨_, rfl, ?_⟩))
    go_ret
    exact ⟨by first | rfl | (simp [errW_none, errW_some] <;> rfl) | (simp [*, errW_none, errW_some] <;> rfl), by repeat (first | (with_reducible first | exact HB.out | apply below_alloc | apply pw_below_drewN | apply below_drew1 | refine below_set ?_ GE302.out) | exact HB.out)⟩
  · replace c3 := Bool.eq_false_iff.mpr c3
    subst c3
    have H1 : (some true) = some r := by rw [if_neg (show ¬ (false = true) by decide)] at H; exact H
    clear H
    have H := H1
    clear H1
    obtain rfl := Option.some.inj H
    go_enter Try.func71, Try.ntmps71
    go_wp2_with (first | ((with_reducible refine gate_dst (N := 1) rfl ?_); (try (refine gate_guard (by rfl) ?_; dsimp only)); refine box_event ?hg (N := 1) ?hd (cs := #[.int .i64 a0_0, .string a0_1]) (t := 54) ?hr ?_; (case hd => rfl); (case hg => rfl); (case hr => first | (go_simp; done) | (go_simp; rfl)); intro gb302 hg w6 hbox hb; have n0_ := Aside0.mk (below_step (by repeat (first | (with_reducible first | exact HB.out | apply below_alloc | apply pw_below_drewN | apply below_drew1) | exact HB.out)) hb); have n1_ := Aside0.mk (hbox); have n2_ := Aside0.mk ((by rw [hg]; exact (below_size (by repeat (first | (with_reducible first | exact HB.out | apply below_alloc | apply pw_below_drewN | apply below_drew1) | exact HB.out))) : w.heap.size ≤ gb302)); have n3_ := Aside0.mk ((by rw [hg]; exact (below_size (by repeat (first | (with_reducible first | exact HB.out | apply below_alloc | apply pw_below_drewN | apply below_drew1) | exact HB.out))) : w.heap.size ≤ gb302)); clear HB; have HB := n0_; have BK302 := n1_; have GW302 := n2_; have GE302 := n3_; clear n0_ n1_ n2_ n3_; clear hb hbox hg; have hcz7_0 : w6.cell? ⟨gb302, 0, none⟩ = some (.int .i64 a0_0) := (blk_cell BK302.out 0).trans rfl; have hcz7_1 : w6.cell? ⟨gb302, 1, none⟩ = some (.string a0_1) := (blk_cell BK302.out 1).trans rfl; have hfz7_0 := blk_frozen BK302.out 0; have hfz7_1 := blk_frozen BK302.out 1) | ((with_reducible refine gate_callee (f := 72) rfl ?_); refine goesL_ (some 5) rfl rfl Try.func72 (by kernel_rfl) rfl #[.int .i64 a0_0] rfl (by (try simp only [List.map_toArray, List.map_cons, List.map_nil]); first | done | rfl | (simp only [List.length_drop, List.length_take]; rfl)) ?_; (with_reducible refine (impl_isCell.calls a0_0 false _ A2.out).mono ?_); rintro e w' ⟨rfl, ⟨nd, rfl⟩⟩; refine ⟨_, rfl, ?_⟩))
    go_ret
    exact ⟨by first | rfl | (simp [errW_none, errW_some] <;> rfl) | (simp [*, errW_none, errW_some] <;> rfl), by repeat (first | (with_reducible first | exact HB.out | apply below_alloc | apply pw_below_drewN | apply below_drew1 | refine below_set ?_ GE302.out) | exact HB.out)⟩
end Go.Proofs.Ytldjfonpegffiaa.Q
namespace Go.Proofs.Ytldjfonpegffiaa.Q
open Go.RowKit Go.Proofs.Ytldjfonpegffiaa.Q Go.Proofs.YtldjfonpegffiaaW.PrintWords Go.Proofs.YtldjfonpegffiaaW.PrintLast Go.Proofs.YtldjfonpegffiaaW.PrintMore
set_option linter.unusedVariables false
set_option linter.unusedSimpArgs false
/-- Where the first element stands of which the function tells true; -1, if there is none. -/
def has_DiskOk_1.ix (p : ByteArray → Bool) : List ByteArray → Int → Int
  | [], _ => -1
  | x :: l, i => if p x = true then i else has_DiskOk_1.ix p l (i + 1)
def has_DiskOk_1.p (x : ByteArray) : Bool := (impl_DiskOk_1.f x).getD false
def has_DiskOk_1.f (l0 : List ByteArray) : Option Bool := if ∀ x ∈ l0, (impl_DiskOk_1.f x).isSome = true then some (l0.any has_DiskOk_1.p) else none
theorem has_DiskOk_1.ix_eq (p : ByteArray → Bool) : ∀ (l : List ByteArray) (i : Int), 0 ≤ i → (decide (0 ≤ has_DiskOk_1.ix p l i)) = l.any p
  | [], i, _ => rfl
  | x :: l, i, h => by
    unfold has_DiskOk_1.ix
    rw [List.any_cons]
    by_cases hx : p x = true
    · rw [if_pos hx, hx]; simp [h]
    · rw [if_neg hx, has_DiskOk_1.ix_eq p l (i + 1) (by omega)]; simp at hx; simp [hx]
set_option maxHeartbeats 2000000 in
set_option maxRecDepth 100000 in
theorem has_DiskOk_1.index (A0 : Option Addr) (c0 : Nat) (l0 : List ByteArray) (w : World) (hr0 : Kd.C Kd.string w A0 l0.length l0) (hp : ∀ x ∈ l0, (impl_DiskOk_1.f x).isSome = true) :
    Calls Try.prog 104 #[.slice A0 l0.length c0, .func (.func 69) #[] #[]] w fun e w' => e = .returned (.int .i64 (has_DiskOk_1.ix has_DiskOk_1.p l0 0)) ∧ Drawn0 w w' := by
  have HR := Aside0.mk hr0
  have HP := Aside0.mk hp
  have hmax : (l0.length : Int) ≤ 9223372036854775807 := by have := hr0.2.1; omega
  clear hr0 hp
  go_enter Try.func104, Try.ntmps104
  go_wp2
  go_loopw [8] (fun v w' => ∃ i : Int, 0 ≤ i ∧ i ≤ (l0.length : Int) ∧ v = .int .i64 i ∧ Aside0 (has_DiskOk_1.ix has_DiskOk_1.p l0 0 = has_DiskOk_1.ix has_DiskOk_1.p (l0.drop i.toNat) i) ∧ Drawn0 w w') (fun v _ => match v with | .int _ i => ((l0.length : Int) - i).toNat | _ => 0)
  case atStart => exact ⟨0, by omega, by omega, rfl, ⟨by simp⟩, Drawn0.refl _⟩
  case round =>
    obtain ⟨i, h0, h1, rfl, HI, ⟨m1, rfl⟩⟩ := hrel
    by_cases hlt : i < (l0.length : Int)
    · have hb : decide (i < (l0.length : Int)) = true := decide_eq_true hlt
      obtain ⟨b, hx⟩ : ∃ b : Bool, impl_DiskOk_1.f (rdOf ByteArray.empty l0 i) = some b := Option.isSome_iff_exists.1 (HP.out _ (by
        simp only [rdOf]
        rw [List.getD_eq_getElem?_getD, List.getElem?_eq_getElem (by omega)]
        exact List.getElem_mem _))
      have hpx : has_DiskOk_1.p (rdOf ByteArray.empty l0 i) = b := by show (impl_DiskOk_1.f (rdOf ByteArray.empty l0 i)).getD false = b; rw [hx]; rfl
      have HX := Aside0.mk hx
      have HD : Aside0 (l0.drop i.toNat = rdOf ByteArray.empty l0 i :: l0.drop (i + 1).toNat) := ⟨by
        have e : (i + 1).toNat = i.toNat + 1 := by omega
        rw [e, List.drop_eq_getElem_cons (by omega)]
        congr 1
        simp only [rdOf]
        rw [List.getD_eq_getElem?_getD, List.getElem?_eq_getElem (by omega)]
        rfl⟩
      have HPX := Aside0.mk hpx
      clear hx hpx
      obtain ⟨ad, e0, hx0⟩ := Kd.at_string HR.out i h0 hlt
      cases e0
      have p1 : (0 ≤ i) = True := eq_true h0
      have q1 : (i < (l0.length : Int)) = True := eq_true hlt
      have ei : IntKind.i64.wrap (i + 1) = i + 1 := IntWalk.i64_in _ (by omega)
      cases b with
      | true =>
        go_wp2_with (first | (go_at_call 69; refine (impl_DiskOk_1.calls (rdOf ByteArray.empty l0 i) _ _ HX.out).mono ?_; rintro e w' ⟨rfl, ⟨nd, rfl⟩⟩))
        go_ret
        have hfin : has_DiskOk_1.ix has_DiskOk_1.p l0 0 = i := by
          rw [HI.out, HD.out]
          unfold has_DiskOk_1.ix
          rw [if_pos HPX.out]
        rw [hfin]
        exact ⟨rfl, by repeat (first | exact Drawn0.refl _ | apply Drawn0.step)⟩
      | false =>
        go_wp2_with (first | (go_at_call 69; refine (impl_DiskOk_1.calls (rdOf ByteArray.empty l0 i) _ _ HX.out).mono ?_; rintro e w' ⟨rfl, ⟨nd, rfl⟩⟩))
        go_roundw
        case rel =>
          refine ⟨i + 1, by omega, by omega, rfl, ⟨?_⟩, by repeat (first | exact Drawn0.refl _ | apply Drawn0.step)⟩
          rw [HI.out, HD.out]
          conv => lhs; unfold has_DiskOk_1.ix
          rw [if_neg (by rw [HPX.out]; decide)]
        case measure => simp; omega
    · have hb : decide (i < (l0.length : Int)) = false := decide_eq_false hlt
      obtain rfl : i = (l0.length : Int) := by omega
      go_wp2
      go_ret
      have hfin : has_DiskOk_1.ix has_DiskOk_1.p l0 0 = -1 := by
        rw [HI.out]
        simp [has_DiskOk_1.ix]
      rw [hfin]
      exact ⟨rfl, by repeat (first | exact Drawn0.refl _ | apply Drawn0.step)⟩
set_option maxHeartbeats 2000000 in
set_option maxRecDepth 100000 in
theorem has_DiskOk_1.calls (A0 : Option Addr) (c0 : Nat) (l0 : List ByteArray) (r : Bool) (w : World) (hr0 : Kd.C Kd.string w A0 l0.length l0) (hc0 : l0.length ≤ c0) (h : has_DiskOk_1.f l0 = some r) :
    Calls Try.prog 68 #[.slice A0 l0.length c0, .func (.func 69) #[] #[]] w fun e w' => e = .returned (.bool r) ∧ Drawn0 w w' := by
  unfold has_DiskOk_1.f at h
  split at h
  · rename_i hp
    have HP := Aside0.mk hp
    have HR := Aside0.mk (Option.some.inj h)
    have HC := Aside0.mk hr0
    clear h hp hr0
    go_enter Try.func68, Try.ntmps68
    go_wp2_with (first | (go_at_call 104; refine (has_DiskOk_1.index A0 c0 l0 _ HC.out HP.out).mono ?_; rintro e w' ⟨rfl, ⟨nd, rfl⟩⟩))
    go_ret
    exact ⟨by rw [← HR.out, ← has_DiskOk_1.ix_eq has_DiskOk_1.p l0 0 (Int.le_refl _)]; rfl, ⟨_, rfl⟩⟩
  · cases h
/-- Where the first element stands of which the function tells true; -1, if there is none. -/
def has_DiskOk_2.ix (p : S54 → Bool) : List S54 → Int → Int
  | [], _ => -1
  | x :: l, i => if p x = true then i else has_DiskOk_2.ix p l (i + 1)
def has_DiskOk_2.p (x : S54) : Bool := (impl_DiskOk_2.f (x).f0 (x).f1).getD false
def has_DiskOk_2.f (l0 : List S54) : Option Bool := if ∀ x ∈ l0, (impl_DiskOk_2.f (x).f0 (x).f1).isSome = true then some (l0.any has_DiskOk_2.p) else none
theorem has_DiskOk_2.ix_eq (p : S54 → Bool) : ∀ (l : List S54) (i : Int), 0 ≤ i → (decide (0 ≤ has_DiskOk_2.ix p l i)) = l.any p
  | [], i, _ => rfl
  | x :: l, i, h => by
    unfold has_DiskOk_2.ix
    rw [List.any_cons]
    by_cases hx : p x = true
    · rw [if_pos hx, hx]; simp [h]
    · rw [if_neg hx, has_DiskOk_2.ix_eq p l (i + 1) (by omega)]; simp at hx; simp [hx]
set_option maxHeartbeats 2000000 in
set_option maxRecDepth 100000 in
theorem has_DiskOk_2.index (A0 : Option Addr) (c0 : Nat) (l0 : List S54) (w : World) (hr0 : Kd.C k54 w A0 l0.length l0) (hp : ∀ x ∈ l0, (impl_DiskOk_2.f (x).f0 (x).f1).isSome = true) :
    Calls Try.prog 105 #[.slice A0 l0.length c0, .func (.func 71) #[] #[]] w fun e w' => e = .returned (.int .i64 (has_DiskOk_2.ix has_DiskOk_2.p l0 0)) ∧ Below w.heap.size w w' := by
  have HR := Aside0.mk hr0
  have HP := Aside0.mk hp
  have hmax : (l0.length : Int) ≤ 9223372036854775807 := by have := hr0.2.1; omega
  clear hr0 hp
  go_enter Try.func105, Try.ntmps105
  go_wp2
  go_loopw [8] (fun v w' => ∃ i : Int, 0 ≤ i ∧ i ≤ (l0.length : Int) ∧ v = .int .i64 i ∧ Aside0 (has_DiskOk_2.ix has_DiskOk_2.p l0 0 = has_DiskOk_2.ix has_DiskOk_2.p (l0.drop i.toNat) i) ∧ Aside0 (Below w.heap.size w w')) (fun v _ => match v with | .int _ i => ((l0.length : Int) - i).toNat | _ => 0)
  case atStart => exact ⟨0, by omega, by omega, rfl, ⟨by simp⟩, ⟨Below.refl _ _⟩⟩
  case round =>
    obtain ⟨i, h0, h1, rfl, HI, HB⟩ := hrel
    by_cases hlt : i < (l0.length : Int)
    · have hb : decide (i < (l0.length : Int)) = true := decide_eq_true hlt
      obtain ⟨b, hx⟩ : ∃ b : Bool, impl_DiskOk_2.f ((rd_T54 l0 i)).f0 ((rd_T54 l0 i)).f1 = some b := Option.isSome_iff_exists.1 (HP.out _ (by
        simp only [rd_T54]
        rw [List.getD_eq_getElem?_getD, List.getElem?_eq_getElem (by omega)]
        exact List.getElem_mem _))
      have hpx : has_DiskOk_2.p (rd_T54 l0 i) = b := by show (impl_DiskOk_2.f ((rd_T54 l0 i)).f0 ((rd_T54 l0 i)).f1).getD false = b; rw [hx]; rfl
      have HX := Aside0.mk hx
      have HD : Aside0 (l0.drop i.toNat = rd_T54 l0 i :: l0.drop (i + 1).toNat) := ⟨by
        have e : (i + 1).toNat = i.toNat + 1 := by omega
        rw [e, List.drop_eq_getElem_cons (by omega)]
        congr 1
        simp only [rd_T54]
        rw [List.getD_eq_getElem?_getD, List.getElem?_eq_getElem (by omega)]
        rfl⟩
      have HPX := Aside0.mk hpx
      clear hx hpx
      obtain ⟨ad, e0, hx0, hx1⟩ := at_T54 (Kd.C_below HR.out HB.out) i h0 hlt
      cases e0
      have p1 : (0 ≤ i) = True := eq_true h0
      have q1 : (i < (l0.length : Int)) = True := eq_true hlt
      have ei : IntKind.i64.wrap (i + 1) = i + 1 := IntWalk.i64_in _ (by omega)
      cases b with
      | true =>
        go_wp2_with (first | (go_at_call 71; refine (impl_DiskOk_2.calls ((rd_T54 l0 i)).f0 ((rd_T54 l0 i)).f1 _ _ HX.out).mono ?_; rintro e w2 ⟨rfl, hb2⟩; have HB2 := Aside0.mk (below_step HB.out hb2); clear hb2))
        go_ret
        have hfin : has_DiskOk_2.ix has_DiskOk_2.p l0 0 = i := by
          rw [HI.out, HD.out]
          unfold has_DiskOk_2.ix
          rw [if_pos HPX.out]
        rw [hfin]
        exact ⟨rfl, HB2.out⟩
      | false =>
        go_wp2_with (first | (go_at_call 71; refine (impl_DiskOk_2.calls ((rd_T54 l0 i)).f0 ((rd_T54 l0 i)).f1 _ _ HX.out).mono ?_; rintro e w2 ⟨rfl, hb2⟩; have HB2 := Aside0.mk (below_step HB.out hb2); clear hb2))
        go_roundw
        case rel =>
          refine ⟨i + 1, by omega, by omega, rfl, ⟨?_⟩, HB2⟩
          rw [HI.out, HD.out]
          conv => lhs; unfold has_DiskOk_2.ix
          rw [if_neg (by rw [HPX.out]; decide)]
        case measure => simp; omega
    · have hb : decide (i < (l0.length : Int)) = false := decide_eq_false hlt
      obtain rfl : i = (l0.length : Int) := by omega
      go_wp2
      go_ret
      have hfin : has_DiskOk_2.ix has_DiskOk_2.p l0 0 = -1 := by
        rw [HI.out]
        simp [has_DiskOk_2.ix]
      rw [hfin]
      exact ⟨rfl, HB.out⟩
set_option maxHeartbeats 2000000 in
set_option maxRecDepth 100000 in
theorem has_DiskOk_2.calls (A0 : Option Addr) (c0 : Nat) (l0 : List S54) (r : Bool) (w : World) (hr0 : Kd.C k54 w A0 l0.length l0) (hc0 : l0.length ≤ c0) (h : has_DiskOk_2.f l0 = some r) :
    Calls Try.prog 70 #[.slice A0 l0.length c0, .func (.func 71) #[] #[]] w fun e w' => e = .returned (.bool r) ∧ Below w.heap.size w w' := by
  unfold has_DiskOk_2.f at h
  split at h
  · rename_i hp
    have HP := Aside0.mk hp
    have HR := Aside0.mk (Option.some.inj h)
    have HC := Aside0.mk hr0
    clear h hp hr0
    go_enter Try.func70, Try.ntmps70
    go_wp2_with (first | (go_at_call 105; refine (has_DiskOk_2.index A0 c0 l0 _ HC.out HP.out).mono ?_; rintro e w2 ⟨rfl, hb2⟩; have HB2 := Aside0.mk hb2; clear hb2))
    go_ret
    exact ⟨by rw [← HR.out, ← has_DiskOk_2.ix_eq has_DiskOk_2.p l0 0 (Int.le_refl _)]; rfl, HB2.out⟩
  · cases h
end Go.Proofs.Ytldjfonpegffiaa.Q
end

section
namespace Go.Proofs.Ytldjfonpegffiaa.Q
open Go.RowKit Go.Proofs.YtldjfonpegffiaaW.PrintWords Go.Proofs.YtldjfonpegffiaaW.PrintLast Go.Proofs.YtldjfonpegffiaaW.PrintMore
attribute [local go_sem] max2_int min2_int max_two min_two max_three min_three max_four min_four   -- for this text's walks alone
set_option linter.unusedVariables false
set_option linter.unusedSimpArgs false
def impl_DiskOk.f (l0_0 : List ByteArray) (l0_1 : List (S54)) (a0_2 : Int) (a0_3 : Int) : Option (Bool) := if (l0_0.length : Int) = 42 then ((has_DiskOk_1.f l0_0).bind fun t305 => (if t305 = true then (some false) else (if (l0_1.length : Int) ≤ 100 then ((has_DiskOk_2.f l0_1).bind fun t306 => (if t306 = true then (some false) else (if a0_2 ≥ (-1) then (some (decide (a0_3 ≥ (-1)))) else (some false)))) else (some false)))) else (some false)
set_option maxHeartbeats 8000000 in
set_option maxRecDepth 100000 in
theorem impl_DiskOk.calls (A0_0 : Option Addr) (c0_0 : Nat) (l0_0 : List ByteArray) (A0_1 : Option Addr) (c0_1 : Nat) (l0_1 : List (S54)) (a0_2 : Int) (a0_3 : Int) (r : Bool) (w : World) (hr0_0 : Kd.C Kd.string w A0_0 l0_0.length l0_0) (hc0_0 : l0_0.length ≤ c0_0) (hr0_1 : Kd.C k54 w A0_1 l0_1.length l0_1) (hc0_1 : l0_1.length ≤ c0_1) (h : impl_DiskOk.f l0_0 l0_1 a0_2 a0_3 = some r) :
    Calls Try.prog 31 #[.agg #[.slice A0_0 l0_0.length c0_0, .slice A0_1 l0_1.length c0_1, .int .i64 a0_2, .int .i64 a0_3]] w fun e w' => e = .returned (.bool r) ∧ Below w.heap.size w w' := by
  have hu30 := Try.underlying30
  have HR0_0 := Aside0.mk hr0_0
  have HC0_0 := Aside0.mk hc0_0
  clear hr0_0 hc0_0
  have HR0_1 := Aside0.mk hr0_1
  have HC0_1 := Aside0.mk hc0_1
  clear hr0_1 hc0_1
  have HB := Aside0.mk (Below.refl w.heap.size w)
  have H : (if (l0_0.length : Int) = 42 then ((has_DiskOk_1.f l0_0).bind fun t305 => (if t305 = true then (some false) else (if (l0_1.length : Int) ≤ 100 then ((has_DiskOk_2.f l0_1).bind fun t306 => (if t306 = true then (some false) else (if a0_2 ≥ (-1) then (some (decide (a0_3 ≥ (-1)))) else (some false)))) else (some false)))) else (some false)) = some r := h
  clear h
  by_cases c2 : (l0_0.length : Int) = 42
  · rw [if_pos c2] at H
    have c2b0 : ((l0_0.length : Int) == 42) = true := beq_iff_eq.mpr c2
    have c2b1 : ((l0_0.length : Int) != 42) = false := bne_eq_false_iff_eq.mpr c2
    clear c2
    replace H := Option.bind_eq_some_iff.mp H
    obtain ⟨t305, A30, H⟩ := H
    replace H : (if t305 = true then (some false) else (if (l0_1.length : Int) ≤ 100 then ((has_DiskOk_2.f l0_1).bind fun t306 => (if t306 = true then (some false) else (if a0_2 ≥ (-1) then (some (decide (a0_3 ≥ (-1)))) else (some false)))) else (some false))) = some r := H
    have A3 := Aside0.mk A30
    clear A30
    by_cases c4 : t305 = true
    · subst c4
      have H1 : (some false) = some r := by rw [if_pos rfl] at H; exact H
      clear H
      have H := H1
      clear H1
      obtain rfl := Option.some.inj H
      go_enter Try.func31, Try.ntmps31
      go_wp2_with (first | ((with_reducible refine gate_dst (N := 1) rfl ?_); (try (refine gate_guard (by rfl) ?_; dsimp only)); refine box_event ?hg (N := 1) ?hd (cs := #[.slice A0_0 l0_0.length c0_0, .slice A0_1 l0_1.length c0_1, .int .i64 a0_2, .int .i64 a0_3]) (t := 30) ?hr ?_; (case hd => rfl); (case hg => rfl); (case hr => first | (go_simp; done) | (go_simp; rfl)); intro gb304 hg w5 hbox hb; have n0_ := Aside0.mk (below_step (by repeat (first | (with_reducible first | exact HB.out | apply below_alloc | apply pw_below_drewN | apply below_drew1) | exact HB.out)) hb); have n1_ := Aside0.mk (hbox); have n2_ := Aside0.mk ((by rw [hg]; exact (below_size (by repeat (first | (with_reducible first | exact HB.out | apply below_alloc | apply pw_below_drewN | apply below_drew1) | exact HB.out))) : w.heap.size ≤ gb304)); have n3_ := Aside0.mk ((by rw [hg]; exact (below_size (by repeat (first | (with_reducible first | exact HB.out | apply below_alloc | apply pw_below_drewN | apply below_drew1) | exact HB.out))) : w.heap.size ≤ gb304)); clear HB; have HB := n0_; have BK304 := n1_; have GW304 := n2_; have GE304 := n3_; clear n0_ n1_ n2_ n3_; clear hb hbox hg; have hcz6_0 : w5.cell? ⟨gb304, 0, none⟩ = some (.slice A0_0 l0_0.length c0_0) := (blk_cell BK304.out 0).trans rfl; have hcz6_1 : w5.cell? ⟨gb304, 1, none⟩ = some (.slice A0_1 l0_1.length c0_1) := (blk_cell BK304.out 1).trans rfl; have hcz6_2 : w5.cell? ⟨gb304, 2, none⟩ = some (.int .i64 a0_2) := (blk_cell BK304.out 2).trans rfl; have hcz6_3 : w5.cell? ⟨gb304, 3, none⟩ = some (.int .i64 a0_3) := (blk_cell BK304.out 3).trans rfl; have hfz6_0 := blk_frozen BK304.out 0; have hfz6_1 := blk_frozen BK304.out 1; have hfz6_2 := blk_frozen BK304.out 2; have hfz6_3 := blk_frozen BK304.out 3) | (go_at_call 68; (with_reducible refine (has_DiskOk_1.calls _ _ l0_0 true _ ?side1 ?side2 A3.out).mono ?_); (case side1 => repeat (first | exact (Kd.C_below HR0_0.out HB.out) | (with_reducible refine Kd.C_alloc ?_ _) | (with_reducible refine Kd.C_drewN ?_ _) | (with_reducible refine Kd.C_drew ?_))); (case side2 => exact HC0_0.out); rintro e w' ⟨rfl, ⟨nd, rfl⟩⟩))
      go_ret
      exact ⟨by first | rfl | (simp [errW_none, errW_some] <;> rfl) | (simp [*, errW_none, errW_some] <;> rfl), by repeat (first | (with_reducible first | exact HB.out | apply below_alloc | apply pw_below_drewN | apply below_drew1 | refine below_set ?_ GE304.out) | exact HB.out)⟩
    · replace c4 := Bool.eq_false_iff.mpr c4
      subst c4
      have H1 : (if (l0_1.length : Int) ≤ 100 then ((has_DiskOk_2.f l0_1).bind fun t306 => (if t306 = true then (some false) else (if a0_2 ≥ (-1) then (some (decide (a0_3 ≥ (-1)))) else (some false)))) else (some false)) = some r := by rw [if_neg (show ¬ (false = true) by decide)] at H; exact H
      clear H
      have H := H1
      clear H1
      by_cases c7 : (l0_1.length : Int) ≤ 100
      · rw [if_pos c7] at H
        have c7b0 : decide ((l0_1.length : Int) ≤ 100) = true := decide_eq_true c7
        have c7b1 : decide (l0_1.length ≤ 100) = true := decide_eq_true (by omega)
        clear c7
        replace H := Option.bind_eq_some_iff.mp H
        obtain ⟨t306, A80, H⟩ := H
        replace H : (if t306 = true then (some false) else (if a0_2 ≥ (-1) then (some (decide (a0_3 ≥ (-1)))) else (some false))) = some r := H
        have A8 := Aside0.mk A80
        clear A80
        by_cases c9 : t306 = true
        · subst c9
          have H1 : (some false) = some r := by rw [if_pos rfl] at H; exact H
          clear H
          have H := H1
          clear H1
          obtain rfl := Option.some.inj H
          go_enter Try.func31, Try.ntmps31
          go_wp2_with (first | ((with_reducible refine gate_dst (N := 1) rfl ?_); (try (refine gate_guard (by rfl) ?_; dsimp only)); refine box_event ?hg (N := 1) ?hd (cs := #[.slice A0_0 l0_0.length c0_0, .slice A0_1 l0_1.length c0_1, .int .i64 a0_2, .int .i64 a0_3]) (t := 30) ?hr ?_; (case hd => rfl); (case hg => rfl); (case hr => first | (go_simp; done) | (go_simp; rfl)); intro gb304 hg w10 hbox hb; have n0_ := Aside0.mk (below_step (by repeat (first | (with_reducible first | exact HB.out | apply below_alloc | apply pw_below_drewN | apply below_drew1) | exact HB.out)) hb); have n1_ := Aside0.mk (hbox); have n2_ := Aside0.mk ((by rw [hg]; exact (below_size (by repeat (first | (with_reducible first | exact HB.out | apply below_alloc | apply pw_below_drewN | apply below_drew1) | exact HB.out))) : w.heap.size ≤ gb304)); have n3_ := Aside0.mk ((by rw [hg]; exact (below_size (by repeat (first | (with_reducible first | exact HB.out | apply below_alloc | apply pw_below_drewN | apply below_drew1) | exact HB.out))) : w.heap.size ≤ gb304)); clear HB; have HB := n0_; have BK304 := n1_; have GW304 := n2_; have GE304 := n3_; clear n0_ n1_ n2_ n3_; clear hb hbox hg; have hcz11_0 : w10.cell? ⟨gb304, 0, none⟩ = some (.slice A0_0 l0_0.length c0_0) := (blk_cell BK304.out 0).trans rfl; have hcz11_1 : w10.cell? ⟨gb304, 1, none⟩ = some (.slice A0_1 l0_1.length c0_1) := (blk_cell BK304.out 1).trans rfl; have hcz11_2 : w10.cell? ⟨gb304, 2, none⟩ = some (.int .i64 a0_2) := (blk_cell BK304.out 2).trans rfl; have hcz11_3 : w10.cell? ⟨gb304, 3, none⟩ = some (.int .i64 a0_3) := (blk_cell BK304.out 3).trans rfl; have hfz11_0 := blk_frozen BK304.out 0; have hfz11_1 := blk_frozen BK304.out 1; have hfz11_2 := blk_frozen BK304.out 2; have hfz11_3 := blk_frozen BK304.out 3) | (go_at_call 68; (with_reducible refine (has_DiskOk_1.calls _ _ l0_0 false _ ?side1 ?side2 A3.out).mono ?_); (case side1 => repeat (first | exact (Kd.C_below HR0_0.out HB.out) | (with_reducible refine Kd.C_alloc ?_ _) | (with_reducible refine Kd.C_drewN ?_ _) | (with_reducible refine Kd.C_drew ?_))); (case side2 => exact HC0_0.out); rintro e w' ⟨rfl, ⟨nd, rfl⟩⟩) | (go_at_call 70; (with_reducible refine (has_DiskOk_2.calls _ _ l0_1 true _ ?side1 ?side2 A8.out).mono ?_); (case side1 => repeat (first | exact (Kd.C_below HR0_1.out (by repeat (first | (with_reducible first | exact HB.out | apply below_alloc | apply pw_below_drewN | apply below_drew1 | refine below_set ?_ GE304.out) | exact HB.out))) | (with_reducible refine Kd.C_alloc ?_ _) | (with_reducible refine Kd.C_drewN ?_ _) | (with_reducible refine Kd.C_drew ?_))); (case side2 => exact HC0_1.out); rintro e w12 ⟨rfl, hb⟩; have n0_ := Aside0.mk (blk_below (g := gb304) (o := .cells #[.slice A0_0 l0_0.length c0_0, .slice A0_1 l0_1.length c0_1, .int .i64 a0_2, .int .i64 a0_3] 30 (0, 0)) (by (with_reducible repeat (first | refine blk_drewN ?_ _ | refine blk_drew ?_ | refine blk_alloc ?_ _)); exact BK304.out) hb); have n1_ := Aside0.mk (below_step (by repeat (first | (with_reducible first | exact HB.out | apply below_alloc | apply pw_below_drewN | apply below_drew1 | refine below_set ?_ GE304.out) | exact HB.out)) hb); clear BK304; clear HB; have BK304 := n0_; have HB := n1_; clear n0_ n1_; (try clear hb); (try clear hb2); (try clear hk); (try clear hi)))
          go_ret
          exact ⟨by first | rfl | (simp [errW_none, errW_some] <;> rfl) | (simp [*, errW_none, errW_some] <;> rfl), by repeat (first | (with_reducible first | exact HB.out | apply below_alloc | apply pw_below_drewN | apply below_drew1 | refine below_set ?_ GE304.out) | exact HB.out)⟩
        · replace c9 := Bool.eq_false_iff.mpr c9
          subst c9
          have H1 : (if a0_2 ≥ (-1) then (some (decide (a0_3 ≥ (-1)))) else (some false)) = some r := by rw [if_neg (show ¬ (false = true) by decide)] at H; exact H
          clear H
          have H := H1
          clear H1
          by_cases c13 : a0_2 ≥ (-1)
          · rw [if_pos c13] at H
            have c13b0 : decide ((-1) ≤ a0_2) = true := decide_eq_true c13
            clear c13
            obtain rfl := Option.some.inj H
            go_enter Try.func31, Try.ntmps31
            go_wp2_with (first | ((with_reducible refine gate_dst (N := 1) rfl ?_); (try (refine gate_guard (by rfl) ?_; dsimp only)); refine box_event ?hg (N := 1) ?hd (cs := #[.slice A0_0 l0_0.length c0_0, .slice A0_1 l0_1.length c0_1, .int .i64 a0_2, .int .i64 a0_3]) (t := 30) ?hr ?_; (case hd => rfl); (case hg => rfl); (case hr => first | (go_simp; done) | (go_simp; rfl)); intro gb304 hg w14 hbox hb; have n0_ := Aside0.mk (below_step (by repeat (first | (with_reducible first | exact HB.out | apply below_alloc | apply pw_below_drewN | apply below_drew1) | exact HB.out)) hb); have n1_ := Aside0.mk (hbox); have n2_ := Aside0.mk ((by rw [hg]; exact (below_size (by repeat (first | (with_reducible first | exact HB.out | apply below_alloc | apply pw_below_drewN | apply below_drew1) | exact HB.out))) : w.heap.size ≤ gb304)); have n3_ := Aside0.mk ((by rw [hg]; exact (below_size (by repeat (first | (with_reducible first | exact HB.out | apply below_alloc | apply pw_below_drewN | apply below_drew1) | exact HB.out))) : w.heap.size ≤ gb304)); clear HB; have HB := n0_; have BK304 := n1_; have GW304 := n2_; have GE304 := n3_; clear n0_ n1_ n2_ n3_; clear hb hbox hg; have hcz15_0 : w14.cell? ⟨gb304, 0, none⟩ = some (.slice A0_0 l0_0.length c0_0) := (blk_cell BK304.out 0).trans rfl; have hcz15_1 : w14.cell? ⟨gb304, 1, none⟩ = some (.slice A0_1 l0_1.length c0_1) := (blk_cell BK304.out 1).trans rfl; have hcz15_2 : w14.cell? ⟨gb304, 2, none⟩ = some (.int .i64 a0_2) := (blk_cell BK304.out 2).trans rfl; have hcz15_3 : w14.cell? ⟨gb304, 3, none⟩ = some (.int .i64 a0_3) := (blk_cell BK304.out 3).trans rfl; have hfz15_0 := blk_frozen BK304.out 0; have hfz15_1 := blk_frozen BK304.out 1; have hfz15_2 := blk_frozen BK304.out 2; have hfz15_3 := blk_frozen BK304.out 3) | (go_at_call 68; (with_reducible refine (has_DiskOk_1.calls _ _ l0_0 false _ ?side1 ?side2 A3.out).mono ?_); (case side1 => repeat (first | exact (Kd.C_below HR0_0.out HB.out) | (with_reducible refine Kd.C_alloc ?_ _) | (with_reducible refine Kd.C_drewN ?_ _) | (with_reducible refine Kd.C_drew ?_))); (case side2 => exact HC0_0.out); rintro e w' ⟨rfl, ⟨nd, rfl⟩⟩) | (go_at_call 70; (with_reducible refine (has_DiskOk_2.calls _ _ l0_1 false _ ?side1 ?side2 A8.out).mono ?_); (case side1 => repeat (first | exact (Kd.C_below HR0_1.out (by repeat (first | (with_reducible first | exact HB.out | apply below_alloc | apply pw_below_drewN | apply below_drew1 | refine below_set ?_ GE304.out) | exact HB.out))) | (with_reducible refine Kd.C_alloc ?_ _) | (with_reducible refine Kd.C_drewN ?_ _) | (with_reducible refine Kd.C_drew ?_))); (case side2 => exact HC0_1.out); rintro e w16 ⟨rfl, hb⟩; have n0_ := Aside0.mk (blk_below (g := gb304) (o := .cells #[.slice A0_0 l0_0.length c0_0, .slice A0_1 l0_1.length c0_1, .int .i64 a0_2, .int .i64 a0_3] 30 (0, 0)) (by (with_reducible repeat (first | refine blk_drewN ?_ _ | refine blk_drew ?_ | refine blk_alloc ?_ _)); exact BK304.out) hb); have n1_ := Aside0.mk (below_step (by repeat (first | (with_reducible first | exact HB.out | apply below_alloc | apply pw_below_drewN | apply below_drew1 | refine below_set ?_ GE304.out) | exact HB.out)) hb); clear BK304; clear HB; have BK304 := n0_; have HB := n1_; clear n0_ n1_; (try clear hb); (try clear hb2); (try clear hk); (try clear hi); have hcz17_0 : w16.cell? ⟨gb304, 0, none⟩ = some (.slice A0_0 l0_0.length c0_0) := (blk_cell BK304.out 0).trans rfl; have hcz17_1 : w16.cell? ⟨gb304, 1, none⟩ = some (.slice A0_1 l0_1.length c0_1) := (blk_cell BK304.out 1).trans rfl; have hcz17_2 : w16.cell? ⟨gb304, 2, none⟩ = some (.int .i64 a0_2) := (blk_cell BK304.out 2).trans rfl; have hcz17_3 : w16.cell? ⟨gb304, 3, none⟩ = some (.int .i64 a0_3) := (blk_cell BK304.out 3).trans rfl; have hfz17_0 := blk_frozen BK304.out 0; have hfz17_1 := blk_frozen BK304.out 1; have hfz17_2 := blk_frozen BK304.out 2; have hfz17_3 := blk_frozen BK304.out 3))
            go_ret
            exact ⟨by first | rfl | (simp [errW_none, errW_some] <;> rfl) | (simp [*, errW_none, errW_some] <;> rfl), by repeat (first | (with_reducible first | exact HB.out | apply below_alloc | apply pw_below_drewN | apply below_drew1 | refine below_set ?_ GE304.out) | exact HB.out)⟩
          · rw [if_neg c13] at H
            have c13b0 : decide ((-1) ≤ a0_2) = false := decide_eq_false c13
            clear c13
            obtain rfl := Option.some.inj H
            go_enter Try.func31, Try.ntmps31
            go_wp2_with (first | ((with_reducible refine gate_dst (N := 1) rfl ?_); (try (refine gate_guard (by rfl) ?_; dsimp only)); refine box_event ?hg (N := 1) ?hd (cs := #[.slice A0_0 l0_0.length c0_0, .slice A0_1 l0_1.length c0_1, .int .i64 a0_2, .int .i64 a0_3]) (t := 30) ?hr ?_; (case hd => rfl); (case hg => rfl); (case hr => first | (go_simp; done) | (go_simp; rfl)); intro gb304 hg w18 hbox hb; have n0_ := Aside0.mk (below_step (by repeat (first | (with_reducible first | exact HB.out | apply below_alloc | apply pw_below_drewN | apply below_drew1) | exact HB.out)) hb); have n1_ := Aside0.mk (hbox); have n2_ := Aside0.mk ((by rw [hg]; exact (below_size (by repeat (first | (with_reducible first | exact HB.out | apply below_alloc | apply pw_below_drewN | apply below_drew1) | exact HB.out))) : w.heap.size ≤ gb304)); have n3_ := Aside0.mk ((by rw [hg]; exact (below_size (by repeat (first | (with_reducible first | exact HB.out | apply below_alloc | apply pw_below_drewN | apply below_drew1) | exact HB.out))) : w.heap.size ≤ gb304)); clear HB; have HB := n0_; have BK304 := n1_; have GW304 := n2_; have GE304 := n3_; clear n0_ n1_ n2_ n3_; clear hb hbox hg; have hcz19_0 : w18.cell? ⟨gb304, 0, none⟩ = some (.slice A0_0 l0_0.length c0_0) := (blk_cell BK304.out 0).trans rfl; have hcz19_1 : w18.cell? ⟨gb304, 1, none⟩ = some (.slice A0_1 l0_1.length c0_1) := (blk_cell BK304.out 1).trans rfl; have hcz19_2 : w18.cell? ⟨gb304, 2, none⟩ = some (.int .i64 a0_2) := (blk_cell BK304.out 2).trans rfl; have hcz19_3 : w18.cell? ⟨gb304, 3, none⟩ = some (.int .i64 a0_3) := (blk_cell BK304.out 3).trans rfl; have hfz19_0 := blk_frozen BK304.out 0; have hfz19_1 := blk_frozen BK304.out 1; have hfz19_2 := blk_frozen BK304.out 2; have hfz19_3 := blk_frozen BK304.out 3) | (go_at_call 68; (with_reducible refine (has_DiskOk_1.calls _ _ l0_0 false _ ?side1 ?side2 A3.out).mono ?_); (case side1 => repeat (first | exact (Kd.C_below HR0_0.out HB.out) | (with_reducible refine Kd.C_alloc ?_ _) | (with_reducible refine Kd.C_drewN ?_ _) | (with_reducible refine Kd.C_drew ?_))); (case side2 => exact HC0_0.out); rintro e w' ⟨rfl, ⟨nd, rfl⟩⟩) | (go_at_call 70; (with_reducible refine (has_DiskOk_2.calls _ _ l0_1 false _ ?side1 ?side2 A8.out).mono ?_); (case side1 => repeat (first | exact (Kd.C_below HR0_1.out (by repeat (first | (with_reducible first | exact HB.out | apply below_alloc | apply pw_below_drewN | apply below_drew1 | refine below_set ?_ GE304.out) | exact HB.out))) | (with_reducible refine Kd.C_alloc ?_ _) | (with_reducible refine Kd.C_drewN ?_ _) | (with_reducible refine Kd.C_drew ?_))); (case side2 => exact HC0_1.out); rintro e w20 ⟨rfl, hb⟩; have n0_ := Aside0.mk (blk_below (g := gb304) (o := .cells #[.slice A0_0 l0_0.length c0_0, .slice A0_1 l0_1.length c0_1, .int .i64 a0_2, .int .i64 a0_3] 30 (0, 0)) (by (with_reducible repeat (first | refine blk_drewN ?_ _ | refine blk_drew ?_ | refine blk_alloc ?_ _)); exact BK304.out) hb); have n1_ := Aside0.mk (below_step (by repeat (first | (with_reducible first | exact HB.out | apply below_alloc | apply pw_below_drewN | apply below_drew1 | refine below_set ?_ GE304.out) | exact HB.out)) hb); clear BK304; clear HB; have BK304 := n0_; have HB := n1_; clear n0_ n1_; (try clear hb); (try clear hb2); (try clear hk); (try clear hi); have hcz21_0 : w20.cell? ⟨gb304, 0, none⟩ = some (.slice A0_0 l0_0.length c0_0) := (blk_cell BK304.out 0).trans rfl; have hcz21_1 : w20.cell? ⟨gb304, 1, none⟩ = some (.slice A0_1 l0_1.length c0_1) := (blk_cell BK304.out 1).trans rfl; have hcz21_2 : w20.cell? ⟨gb304, 2, none⟩ = some (.int .i64 a0_2) := (blk_cell BK304.out 2).trans rfl; have hcz21_3 : w20.cell? ⟨gb304, 3, none⟩ = some (.int .i64 a0_3) := (blk_cell BK304.out 3).trans rfl; have hfz21_0 := blk_frozen BK304.out 0; have hfz21_1 := blk_frozen BK304.out 1; have hfz21_2 := blk_frozen BK304.out 2; have hfz21_3 := blk_frozen BK304.out 3))
            go_ret
            exact ⟨by first | rfl | (simp [errW_none, errW_some] <;> rfl) | (simp [*, errW_none, errW_some] <;> rfl), by repeat (first | (with_reducible first | exact HB.out | apply below_alloc | apply pw_below_drewN | apply below_drew1 | refine below_set ?_ GE304.out) | exact HB.out)⟩
      · rw [if_neg c7] at H
        have c7b0 : decide ((l0_1.length : Int) ≤ 100) = false := decide_eq_false c7
        have c7b1 : decide (l0_1.length ≤ 100) = false := decide_eq_false (by omega)
        clear c7
        obtain rfl := Option.some.inj H
        go_enter Try.func31, Try.ntmps31
        go_wp2_with (first | ((with_reducible refine gate_dst (N := 1) rfl ?_); (try (refine gate_guard (by rfl) ?_; dsimp only)); refine box_event ?hg (N := 1) ?hd (cs := #[.slice A0_0 l0_0.length c0_0, .slice A0_1 l0_1.length c0_1, .int .i64 a0_2, .int .i64 a0_3]) (t := 30) ?hr ?_; (case hd => rfl); (case hg => rfl); (case hr => first | (go_simp; done) | (go_simp; rfl)); intro gb304 hg w22 hbox hb; have n0_ := Aside0.mk (below_step (by repeat (first | (with_reducible first | exact HB.out | apply below_alloc | apply pw_below_drewN | apply below_drew1) | exact HB.out)) hb); have n1_ := Aside0.mk (hbox); have n2_ := Aside0.mk ((by rw [hg]; exact (below_size (by repeat (first | (with_reducible first | exact HB.out | apply below_alloc | apply pw_below_drewN | apply below_drew1) | exact HB.out))) : w.heap.size ≤ gb304)); have n3_ := Aside0.mk ((by rw [hg]; exact (below_size (by repeat (first | (with_reducible first | exact HB.out | apply below_alloc | apply pw_below_drewN | apply below_drew1) | exact HB.out))) : w.heap.size ≤ gb304)); clear HB; have HB := n0_; have BK304 := n1_; have GW304 := n2_; have GE304 := n3_; clear n0_ n1_ n2_ n3_; clear hb hbox hg; have hcz23_0 : w22.cell? ⟨gb304, 0, none⟩ = some (.slice A0_0 l0_0.length c0_0) := (blk_cell BK304.out 0).trans rfl; have hcz23_1 : w22.cell? ⟨gb304, 1, none⟩ = some (.slice A0_1 l0_1.length c0_1) := (blk_cell BK304.out 1).trans rfl; have hcz23_2 : w22.cell? ⟨gb304, 2, none⟩ = some (.int .i64 a0_2) := (blk_cell BK304.out 2).trans rfl; have hcz23_3 : w22.cell? ⟨gb304, 3, none⟩ = some (.int .i64 a0_3) := (blk_cell BK304.out 3).trans rfl; have hfz23_0 := blk_frozen BK304.out 0; have hfz23_1 := blk_frozen BK304.out 1; have hfz23_2 := blk_frozen BK304.out 2; have hfz23_3 := blk_frozen BK304.out 3) | (go_at_call 68; (with_reducible refine (has_DiskOk_1.calls _ _ l0_0 false _ ?side1 ?side2 A3.out).mono ?_); (case side1 => repeat (first | exact (Kd.C_below HR0_0.out HB.out) | (with_reducible refine Kd.C_alloc ?_ _) | (with_reducible refine Kd.C_drewN ?_ _) | (with_reducible refine Kd.C_drew ?_))); (case side2 => exact HC0_0.out); rintro e w' ⟨rfl, ⟨nd, rfl⟩⟩))
        go_ret
        exact ⟨by first | rfl | (simp [errW_none, errW_some] <;> rfl) | (simp [*, errW_none, errW_some] <;> rfl), by repeat (first | (with_reducible first | exact HB.out | apply below_alloc | apply pw_below_drewN | apply below_drew1 | refine below_set ?_ GE304.out) | exact HB.out)⟩
  · rw [if_neg c2] at H
    have c2b0 : ((l0_0.length : Int) == 42) = false := beq_eq_false_iff_ne.mpr c2
    have c2b1 : ((l0_0.length : Int) != 42) = true := bne_iff_ne.mpr c2
    obtain rfl := Option.some.inj H
    go_enter Try.func31, Try.ntmps31
    go_wp2_with (first | ((with_reducible refine gate_dst (N := 1) rfl ?_); (try (refine gate_guard (by rfl) ?_; dsimp only)); refine box_event ?hg (N := 1) ?hd (cs := #[.slice A0_0 l0_0.length c0_0, .slice A0_1 l0_1.length c0_1, .int .i64 a0_2, .int .i64 a0_3]) (t := 30) ?hr ?_; (case hd => rfl); (case hg => rfl); (case hr => first | (go_simp; done) | (go_simp; rfl)); intro gb304 hg w24 hbox hb; have n0_ := Aside0.mk (below_step (by repeat (first | (with_reducible first | exact HB.out | apply below_alloc | apply pw_below_drewN | apply below_drew1) | exact HB.out)) hb); have n1_ := Aside0.mk (hbox); have n2_ := Aside0.mk ((by rw [hg]; exact (below_size (by repeat (first | (with_reducible first | exact HB.out | apply below_alloc | apply pw_below_drewN | apply below_drew1) | exact HB.out))) : w.heap.size ≤ gb304)); have n3_ := Aside0.mk ((by rw [hg]; exact (below_size (by repeat (first | (with_reducible first | exact HB.out | apply below_alloc | apply pw_below_drewN | apply below_drew1) | exact HB.out))) : w.heap.size ≤ gb304)); clear HB; have HB := n0_; have BK304 := n1_; have GW304 := n2_; have GE304 := n3_; clear n0_ n1_ n2_ n3_; clear hb hbox hg; have hcz25_0 : w24.cell? ⟨gb304, 0, none⟩ = some (.slice A0_0 l0_0.length c0_0) := (blk_cell BK304.out 0).trans rfl; have hcz25_1 : w24.cell? ⟨gb304, 1, none⟩ = some (.slice A0_1 l0_1.length c0_1) := (blk_cell BK304.out 1).trans rfl; have hcz25_2 : w24.cell? ⟨gb304, 2, none⟩ = some (.int .i64 a0_2) := (blk_cell BK304.out 2).trans rfl; have hcz25_3 : w24.cell? ⟨gb304, 3, none⟩ = some (.int .i64 a0_3) := (blk_cell BK304.out 3).trans rfl; have hfz25_0 := blk_frozen BK304.out 0; have hfz25_1 := blk_frozen BK304.out 1; have hfz25_2 := blk_frozen BK304.out 2; have hfz25_3 := blk_frozen BK304.out 3))
    go_ret
    exact ⟨by first | rfl | (simp [errW_none, errW_some] <;> rfl) | (simp [*, errW_none, errW_some] <;> rfl), by repeat (first | (with_reducible first | exact HB.out | apply below_alloc | apply pw_below_drewN | apply below_drew1 | refine below_set ?_ GE304.out) | exact HB.out)⟩
end Go.Proofs.Ytldjfonpegffiaa.Q
namespace Go.Proofs.Ytldjfonpegffiaa.Q
open Go.Shelf
open Go.RowKit Go.Proofs.Ytldjfonpegffiaa.Q Go.Proofs.YtldjfonpegffiaaW.PrintWords Go.Proofs.YtldjfonpegffiaaW.PrintLast Go.Proofs.YtldjfonpegffiaaW.PrintMore
set_option linter.unusedVariables false
set_option linter.unusedSimpArgs false
/-- A block holds these cells. -/
def CellsAt (W : World) (B : Nat) (t : TypeId) (cs : Array Value) : Prop := W.heap[B]? = some (.cells cs t (0, 0))
theorem CellsAt.lt {W : World} {B : Nat} {t : TypeId} {cs : Array Value} (h : CellsAt W B t cs) : B < W.heap.size := (Array.getElem?_eq_some_iff.1 h).1
theorem CellsAt.new (W : World) (t : TypeId) (cs : Array Value) : CellsAt (W.alloc (.cells cs t)) W.heap.size t cs := World.alloc_heap_new W _
theorem CellsAt.kept {W W' : World} {row : Option Nat} {B : Nat} {t : TypeId} {cs : Array Value} (h : CellsAt W B t cs) (hg : W.grownBy W' row) (hne : some B ≠ row) : CellsAt W' B t cs := (hg.block B h.lt hne).trans h
theorem CellsAt.below {W W' : World} {B n : Nat} {t : TypeId} {cs : Array Value} (h : CellsAt W B t cs) (hb : Below n W W') (hn : B < n) : CellsAt W' B t cs := (hb.block B hn).trans h
theorem CellsAt.alloc {W : World} {B : Nat} {t : TypeId} {cs : Array Value} (h : CellsAt W B t cs) (o : Obj) : CellsAt (W.alloc o) B t cs := (Below.heap_alloc W o B h.lt).trans h
theorem CellsAt.drewN {W : World} {B : Nat} {t : TypeId} {cs : Array Value} (h : CellsAt W B t cs) (m : Nat) : CellsAt (W.drewN m) B t cs := h
theorem CellsAt.cell {W : World} {B : Nat} {t : TypeId} {cs : Array Value} (h : CellsAt W B t cs) (j : Nat) : W.cell? ⟨B, j, none⟩ = cs[j]? := by
  simp [World.cell?, show W.heap[B]? = _ from h]
theorem CellsAt.frozen {W : World} {B : Nat} {t : TypeId} {cs : Array Value} (h : CellsAt W B t cs) (j : Nat) : W.frozen? ⟨B, j, none⟩ = false := by simp [World.frozen?, show W.heap[B]? = _ from h]
theorem cellsAt_own {β : Type} (B : Nat) (t : TypeId) (f : β → Array Value) : Own (fun s W => CellsAt W B t (f s)) := fun s X Y row hs hg hrow =>
  hs.kept hg (fun e' => by obtain ⟨o, ho, hc⟩ := hrow B e'.symm; rw [show X.heap[B]? = _ from hs] at ho; cases ho; cases hc)
/-- What has come when k rounds are over. -/
def upto {α : Type} (f : Nat → α) (k : Nat) : List α := (List.range k).map f
theorem upto_succ {α : Type} (f : Nat → α) (k : Nat) : upto f (k + 1) = upto f k ++ [f k] := by simp [upto, List.range_succ]
theorem upto_length {α : Type} (f : Nat → α) (k : Nat) : (upto f k).length = k := by simp [upto]
/-- What a round that goes on keeps: what lay below, and the box of the slice. -/
def KpB (n₀ Bs : Nat) (W W' : World) : Prop := Below n₀ W W' ∧ W'.heap[Bs]? = W.heap[Bs]?
theorem KpB.refl (n₀ Bs : Nat) (W : World) : KpB n₀ Bs W W := ⟨Below.refl _ _, rfl⟩
theorem KpB.trans {n₀ Bs : Nat} {A B C : World} (h : KpB n₀ Bs A B) (k : KpB n₀ Bs B C) : KpB n₀ Bs A C := ⟨h.1.trans k.1, k.2.trans h.2⟩
theorem kpB_b {n₀ Bs : Nat} {w : World} (h0 : n₀ ≤ w.heap.size) (hB : Bs < w.heap.size) : ∀ (W : World) (l : Nat) (o o' : Obj), w.heap.size ≤ l → W.heap[l]? = some o → o.isCells = false → o.isWalk = false → KpB n₀ Bs W (W.putObj l o') :=
  fun W l o o' hl h1 h2 h3 => ⟨belowK_b h0 W l o o' hl h1 h2 h3, World.putObj_heap_other (by omega)⟩
theorem Below.drewN_ {n : Nat} (w : World) (m : Nat) : Below n w (w.drewN m) := ⟨rfl, rfl, rfl, Nat.le_refl _, fun _ _ => rfl⟩
end Go.Proofs.Ytldjfonpegffiaa.Q
namespace Go.Proofs.Ytldjfonpegffiaa.Q
open Go.Deep Go.WideShapes Go.ChangeShapes
open Go.RowKit Go.Proofs.Ytldjfonpegffiaa.Q Go.Proofs.YtldjfonpegffiaaW.PrintWords Go.Proofs.YtldjfonpegffiaaW.PrintLast Go.Proofs.YtldjfonpegffiaaW.PrintMore
set_option linter.unusedVariables false
set_option linter.unusedSimpArgs false
end Go.Proofs.Ytldjfonpegffiaa.Q
namespace Go.Proofs.Ytldjfonpegffiaa.Q
open Go.RowKit Go.Proofs.Ytldjfonpegffiaa.Q Go.Proofs.YtldjfonpegffiaaW.PrintWords Go.Proofs.YtldjfonpegffiaaW.PrintLast Go.Proofs.YtldjfonpegffiaaW.PrintMore
end Go.Proofs.Ytldjfonpegffiaa.Q
namespace Go.Proofs.Ytldjfonpegffiaa.Q
open Go.RowKit Go.Proofs.Ytldjfonpegffiaa.Q Go.Proofs.YtldjfonpegffiaaW.PrintWords Go.Proofs.YtldjfonpegffiaaW.PrintLast Go.Proofs.YtldjfonpegffiaaW.PrintMore
set_option linter.unusedVariables false
set_option linter.unusedSimpArgs false
end Go.Proofs.Ytldjfonpegffiaa.Q
namespace Go.Proofs.Ytldjfonpegffiaa.Q
open Go.RowKit Go.Proofs.Ytldjfonpegffiaa.Q Go.Proofs.YtldjfonpegffiaaW.PrintWords Go.Proofs.YtldjfonpegffiaaW.PrintLast Go.Proofs.YtldjfonpegffiaaW.PrintMore
set_option linter.unusedVariables false
set_option linter.unusedSimpArgs false
end Go.Proofs.Ytldjfonpegffiaa.Q
end

section
namespace Go.Proofs.Ytldjfonpegffiaa.Q
open Go.RowKit Go.Proofs.Ytldjfonpegffiaa.Q Go.Proofs.YtldjfonpegffiaaW.PrintWords Go.Proofs.YtldjfonpegffiaaW.PrintLast Go.Proofs.YtldjfonpegffiaaW.PrintMore
set_option linter.unusedVariables false
set_option linter.unusedSimpArgs false
/-- A write that waits is ok. -/
def waitOk (w : S54) : Bool := decide (0 ≤ w.f0) && decide (w.f0 ≤ 41) && decide (w.f1.size ≤ 1200)
/-- A disk is ok. -/
def diskOk (cells : List ByteArray) (waits : List S54) (room left : Int) : Bool :=
  decide (cells.length = 42) && decide (waits.length ≤ 100) && decide (-1 ≤ room) && decide (-1 ≤ left) && cells.all (fun s => decide (s.size ≤ 1200)) && waits.all waitOk
theorem impl_in_eq (a b c : Int) : impl_in.f a b c = some (decide (b ≤ a) && decide (a ≤ c)) := by
  unfold impl_in.f
  by_cases h : a ≥ b
  · rw [if_pos h]; have h' : b ≤ a := h; simp [h']
  · rw [if_neg h]; have h' : ¬ b ≤ a := h; simp [h']
theorem has_DiskOk_1_eq (l : List ByteArray) : has_DiskOk_1.f l = some (l.any fun s => decide (1200 < s.size)) := by
  unfold has_DiskOk_1.f
  rw [if_pos (show ∀ x ∈ l, (impl_DiskOk_1.f x).isSome = true from fun x _ => rfl)]
  congr 2
  funext s
  unfold has_DiskOk_1.p impl_DiskOk_1.f
  simp only [Option.getD_some]
  congr 1
  apply propext
  omega
theorem impl_DiskOk_2_eq (w : S54) : impl_DiskOk_2.f w.f0 w.f1 = some (!waitOk w) := by
  unfold impl_DiskOk_2.f impl_isCell.f
  rw [impl_in_eq]
  simp only [Option.bind_some]
  unfold waitOk
  by_cases h : (decide (0 ≤ w.f0) && decide (w.f0 ≤ 41)) = true
  · rw [if_pos h, h]
    congr 1
    rw [Bool.true_and, ← decide_not]
    congr 1
    apply propext
    omega
  · rw [if_neg h]
    simp only [Bool.not_eq_true] at h
    rw [h]
    rfl
theorem has_DiskOk_2_eq (l : List S54) : has_DiskOk_2.f l = some (l.any fun w => !waitOk w) := by
  unfold has_DiskOk_2.f
  rw [if_pos (fun x _ => by rw [impl_DiskOk_2_eq]; rfl)]
  congr 2
  funext s
  unfold has_DiskOk_2.p
  rw [impl_DiskOk_2_eq]
  rfl
theorem any_not_all {α : Type} (l : List α) (p q : α → Bool) (h : ∀ x, p x = !q x) : l.any p = !l.all q := by
  induction l with
  | nil => rfl
  | cons x l ih => rw [List.any_cons, List.all_cons, ih, h]; cases q x <;> simp
theorem impl_DiskOk_eq (cells : List ByteArray) (waits : List S54) (room left : Int) : impl_DiskOk.f cells waits room left = some (diskOk cells waits room left) := by
  unfold impl_DiskOk.f diskOk
  rw [has_DiskOk_1_eq, has_DiskOk_2_eq, any_not_all cells _ (fun s => decide (s.size ≤ 1200)) (fun s => by rw [← decide_not]; congr 1; apply propext; omega), any_not_all waits _ waitOk (fun w => rfl)]
  simp only [Option.bind_some]
  by_cases h1 : cells.length = 42
  · have h1' : (cells.length : Int) = 42 := by omega
    rw [if_pos h1']
    cases h2 : cells.all (fun s => decide (s.size ≤ 1200)) with
    | false => simp
    | true =>
      rw [if_neg (by simp)]
      by_cases h3 : waits.length ≤ 100
      · have h3' : (waits.length : Int) ≤ 100 := by omega
        rw [if_pos h3']
        cases h4 : waits.all waitOk with
        | false => simp
        | true =>
          rw [if_neg (by simp)]
          by_cases h5 : room ≥ -1
          · rw [if_pos h5]
            have h5' : -1 ≤ room := h5
            simp [h1, h3, h5']
          · rw [if_neg h5]
            have h5' : ¬ -1 ≤ room := h5
            simp [h5']
      · have h3' : ¬ (waits.length : Int) ≤ 100 := by omega
        rw [if_neg h3']
        simp [h3]
  · have h1' : ¬ (cells.length : Int) = 42 := by omega
    rw [if_neg h1']
    simp [h1]
end Go.Proofs.Ytldjfonpegffiaa.Q
namespace Go.Proofs.Ytldjfonpegffiaa.Q
open Go.Shelf
open Go.RowKit Go.Proofs.Ytldjfonpegffiaa.Q Go.Proofs.YtldjfonpegffiaaW.PrintWords Go.Proofs.YtldjfonpegffiaaW.PrintLast Go.Proofs.YtldjfonpegffiaaW.PrintMore
set_option linter.unusedVariables false
set_option linter.unusedSimpArgs false
attribute [local go_sem] Oper.semAt_some
def encW (x : Int × S54) : Array Value := #[.int .i64 x.1, .agg #[.int .i64 x.2.f0, .string x.2.f1]]
def bwF (zs : List S54) (j : Nat) : Int × S54 := ((zs.length : Int) - 1 - j, rd_T54 zs ((zs.length : Int) - 1 - j))
set_option maxRecDepth 100000 in
set_option maxHeartbeats 2000000 in
theorem backW1_in (F : Fence) (n : Nat) (h7 : F.fn 107) (hro : F.round = none) (hn : 1 ≤ n) (l Bs : Nat) (w0 : World) (A : Option Addr) (cap : Nat) (zs : List S54) (hcap : zs.length ≤ cap) (hlen : zs.length ≤ 1152921504606846976)
    (hC : Kd.C k54 w0 A zs.length zs) (J Jx : List (Int × S54) → World → Prop)
    (hY : ∀ pre x W, J pre W → pre.length < zs.length → YieldAt F (n - 1) Try.prog l (encW x) W fun e W' =>
      (e = .returned (.bool true) ∧ J (pre ++ [x]) W' ∧ KpB w0.heap.size Bs W W') ∨ (e = .returned (.bool false) ∧ Jx (pre ++ [x]) W'))
    (W : World) (hB : Below w0.heap.size w0 W) (hBs : CellsAt W Bs 28 #[.slice A zs.length cap]) (h0 : J [] W) :
    CallsIn F n Try.prog 107 #[.func (.yield l) #[] #[], .pointer (some ⟨Bs, 0, none⟩)] W fun e W' => (∃ v, e = .returned v) ∧
      ((∃ ys, ys = upto (bwF zs) zs.length ∧ J ys W') ∨ (∃ pre, (∃ k, k ≤ zs.length ∧ pre = upto (bwF zs) k) ∧ Jx pre W')) := by
  refine callsIn_of_wp Try.func107 rfl h7 ?_ hro
  simp only [Try.ntmps107, List.size_toArray, List.length_cons, List.length_nil, Nat.reduceAdd, Nat.reduceSub, Array.replicate_succ, Array.replicate_zero, List.push_toArray, List.append_toArray, List.nil_append, List.cons_append]
  have e1 : wrap64 ((zs.length : Int) - 1) = (zs.length : Int) - 1 := by unfold wrap64; omega
  have hc0 : W.cell? ⟨Bs, 0, none⟩ = some (.slice A zs.length cap) := hBs.cell 0
  gi_wp2
  gi_loopw [3] (fun i wr => ∃ k : Nat, k ≤ zs.length ∧ i = .int .i64 ((zs.length : Int) - 1 - k) ∧ J (upto (bwF zs) k) wr ∧ KpB w0.heap.size Bs W wr)
    (fun i _ => (intOf i + 1).toNat)
  case atStart => exact ⟨0, Nat.zero_le _, by simp [*], h0, KpB.refl _ _ _⟩
  case round =>
    obtain ⟨k, hk, rfl, hJs, hnx⟩ := hrel
    have hbx : CellsAt wr Bs 28 #[.slice A zs.length cap] := hnx.2.trans hBs
    have hc1 : wr.cell? ⟨Bs, 0, none⟩ = some (.slice A zs.length cap) := hbx.cell 0
    have hCr := Kd.C_below hC (hB.trans hnx.1)
    by_cases hlt : k < zs.length
    · obtain ⟨fn, tmps, assign, body, hy, hR⟩ := hY _ (bwF zs k) wr hJs (by rw [upto_length]; exact hlt)
      simp only [encW, bwF] at hy
      obtain ⟨i, hi⟩ : ∃ i : Int, (zs.length : Int) - 1 - k = i := ⟨_, rfl⟩
      rw [hi] at hy ⊢
      have p0 : 0 ≤ i := by omega
      have q0 : i < (zs.length : Int) := by omega
      obtain ⟨ad, eA, hx0, hx1⟩ := at_T54 hCr i p0 q0
      subst eA
      have p0' := eq_true p0
      have q0' := eq_true q0
      have d0 : decide (i < 0) = false := decide_eq_false (by omega)
      have d1 : decide (0 ≤ i) = true := decide_eq_true p0
      gi_wp2
      refine hR.mono ?_
      rintro e W3 (⟨rfl, hJ3, hk3⟩ | ⟨rfl, hJx3⟩)
      · have e2 : wrap64 (i - 1) = i - 1 := by unfold wrap64; omega
        gi_wp2
        go_roundw
        case rel => exact ⟨k + 1, by omega, by simp [*]; omega, by rw [upto_succ]; exact hJ3, hnx.trans hk3⟩
        case measure => simp [intOf, e2]; omega
      · gi_wp2
        refine bodyPost_ret (results_none rfl _ _ _) rfl ?_
        exact ⟨⟨_, rfl⟩, .inr ⟨_, ⟨k + 1, by omega, (upto_succ _ _).symm⟩, hJx3⟩⟩
    · obtain rfl : k = zs.length := by omega
      have d0 : decide (0 ≤ (zs.length : Int) - 1 - zs.length) = false := decide_eq_false (by omega)
      gi_wp2
      go_end0
      exact ⟨⟨_, rfl⟩, .inl ⟨_, rfl, hJs⟩⟩
set_option maxHeartbeats 1000000 in
theorem backW_in (F : Fence) (n : Nat) (h5 : F.fn 75) (hro : F.round = none) (a : Option Addr) (len cap : Nat) (w : World) :
    CallsIn F n Try.prog 75 #[.slice a len cap] w fun e w' => e = .returned (.func (.func 107) #[] #[.pointer (some ⟨w.heap.size, 0, none⟩)]) ∧ w' = w.alloc (.cells #[.slice a len cap] 28) := by
  refine callsIn_of_wp Try.func75 rfl h5 ?_ hro
  simp only [Try.ntmps75, List.size_toArray, List.length_cons, List.length_nil, Nat.reduceAdd, Nat.reduceSub, Array.replicate_succ, Array.replicate_zero, List.push_toArray, List.append_toArray, List.nil_append, List.cons_append]
  gi_wp2
  go_ret
  exact ⟨rfl, rfl⟩
theorem backW_stops (F : Fence) (n : Nat) (h7 : F.fn 107) (hro : F.round = none) (hn : 1 ≤ n) (Bs : Nat) (w0 : World) (A : Option Addr) (cap : Nat) (zs : List S54) (hcap : zs.length ≤ cap) (hlen : zs.length ≤ 1152921504606846976)
    (hC : Kd.C k54 w0 A zs.length zs) (w : World) (hB : Below w0.heap.size w0 w) (hBs : CellsAt w Bs 28 #[.slice A zs.length cap]) :
    SeqStopsK F n Try.prog 107 #[.pointer (some ⟨Bs, 0, none⟩)] encW (KpB w0.heap.size Bs) (fun ys => ys = upto (bwF zs) zs.length)
      (fun pre => ∃ k, k ≤ zs.length ∧ pre = upto (bwF zs) k) zs.length w := fun l J Jx W hW _ _ hY h0 =>
  backW1_in F n h7 hro hn l Bs w0 A cap zs hcap hlen hC J Jx hY W (hB.trans (hW.mono hB.size)) (hBs.below hW hBs.lt) h0
/-- What a disk answers for a cell: what was written last. -/
def readF (ws : List S54) (cells : List ByteArray) (at_ : Int) : ByteArray :=
  match ws.reverse.find? (fun w => w.f0 == at_) with
  | some w => w.f1
  | none => rdOf ByteArray.empty cells at_
theorem bwF_snd (zs : List S54) (k : Nat) (hk : k ≤ zs.length) : (upto (bwF zs) k).map Prod.snd = zs.reverse.take k := by
  apply List.ext_getElem
  · simp [upto]; omega
  · intro i h1 h2
    have hi : i < zs.length := by simp [upto] at h1; omega
    simp only [upto, List.map_map, List.getElem_map, List.getElem_range, Function.comp, bwF, List.getElem_take, List.getElem_reverse]
    unfold rd_T54
    have e : ((zs.length : Int) - 1 - i).toNat = zs.length - 1 - i := by omega
    rw [e, List.getD_eq_getElem?_getD, List.getElem?_eq_getElem (by omega)]
    rfl
theorem readF_none (ws : List S54) (cells : List ByteArray) (at_ : Int) (h : ∀ p ∈ upto (bwF ws) ws.length, p.2.f0 ≠ at_) : readF ws cells at_ = rdOf ByteArray.empty cells at_ := by
  have e := bwF_snd ws ws.length (Nat.le_refl _)
  rw [List.take_of_length_le (by simp)] at e
  unfold readF
  have : ws.reverse.find? (fun w => w.f0 == at_) = none := by
    rw [List.find?_eq_none]
    intro x hx
    rw [← e] at hx
    obtain ⟨p, hp, rfl⟩ := List.mem_map.1 hx
    simpa using h p hp
  rw [this]
theorem readF_some (ws : List S54) (cells : List ByteArray) (at_ : Int) (k : Nat) (hk : k ≤ ws.length) (ini : List (Int × S54)) (last : Int × S54)
    (e : upto (bwF ws) k = ini ++ [last]) (h1 : ∀ p ∈ ini, p.2.f0 ≠ at_) (h2 : last.2.f0 = at_) : readF ws cells at_ = last.2.f1 := by
  have e2 := bwF_snd ws k hk
  rw [e, List.map_append] at e2
  unfold readF
  have : ws.reverse.find? (fun w => w.f0 == at_) = some last.2 := by
    rw [← List.take_append_drop k ws.reverse, ← e2, List.append_assoc, List.find?_append, List.find?_eq_none.2 (fun x hx => ?_)]
    · simp [h2]
    · obtain ⟨p, hp, rfl⟩ := List.mem_map.1 hx
      simpa using h1 p hp
  rw [this]
def impl_DiskRead.f (l0 : List ByteArray) (l1 : List S54) (a2 a3 a1 : Int) : Option ByteArray :=
  if diskOk l0 l1 a2 a3 = true ∧ 0 ≤ a1 ∧ a1 ≤ 41 then some (readF l1 l0 a1) else some ByteArray.empty
theorem isCell_eq (a : Int) : impl_isCell.f a = some (decide (0 ≤ a) && decide (a ≤ 41)) := by
  unfold impl_isCell.f
  rw [impl_in_eq]
  rfl
set_option maxRecDepth 100000 in
set_option maxHeartbeats 4000000 in
theorem impl_DiskRead.calls (A0 : Option Addr) (c0 : Nat) (l0 : List ByteArray) (A1 : Option Addr) (c1 : Nat) (l1 : List S54) (a2 a3 a1 : Int) (r : ByteArray) (w : World) (hr0 : Kd.C Kd.string w A0 l0.length l0) (hc0 : l0.length ≤ c0) (hr1 : Kd.C k54 w A1 l1.length l1) (hc1 : l1.length ≤ c1) (h : impl_DiskRead.f l0 l1 a2 a3 a1 = some r) :
    Calls Try.prog 33 #[.agg #[.slice A0 l0.length c0, .slice A1 l1.length c1, .int .i64 a2, .int .i64 a3], .int .i64 a1] w fun e w' => e = .returned (.string r) ∧ Below w.heap.size w w' := by
  have hu30 := Try.underlying30
  have hu54 := Try.underlying54
  have e1 := Aside0.mk (impl_DiskOk_eq l0 l1 a2 a3)
  have e2 := Aside0.mk (isCell_eq a1)
  have HR0 := Aside0.mk hr0
  have HR1 := Aside0.mk hr1
  have HC0 := Aside0.mk hc0
  have HC1 := Aside0.mk hc1
  clear hr0 hr1 hc0 hc1
  have HRES : Aside0 ((if diskOk l0 l1 a2 a3 = true ∧ (decide (0 ≤ a1) && decide (a1 ≤ 41)) = true then readF l1 l0 a1 else ByteArray.empty) = r) := by
    unfold impl_DiskRead.f at h
    simp only [Bool.and_eq_true, decide_eq_true_eq]
    split at h
    · rename_i hh; rw [if_pos hh]; exact ⟨Option.some.inj h⟩
    · rename_i hh; rw [if_neg hh]; exact ⟨Option.some.inj h⟩
  clear h
  obtain ⟨w3, hw3⟩ : ∃ w3, ((w.alloc (.cells #[.slice A0 l0.length c0, .slice A1 l1.length c1, .int .i64 a2, .int .i64 a3] 30)).alloc (.cells #[.int .i64 a1] 3)).alloc (.cells #[.string ⟨#[]⟩] 9) = w3 := ⟨_, rfl⟩
  have b0 : CellsAt w3 w.heap.size 30 #[.slice A0 l0.length c0, .slice A1 l1.length c1, .int .i64 a2, .int .i64 a3] := by rw [← hw3]; exact ((CellsAt.new w _ _).alloc _).alloc _
  have b1 : CellsAt w3 (w.heap.size + 1) 3 #[.int .i64 a1] := by rw [← hw3]; have := (CellsAt.new (w.alloc (.cells #[.slice A0 l0.length c0, .slice A1 l1.length c1, .int .i64 a2, .int .i64 a3] 30)) 3 #[.int .i64 a1]).alloc (.cells #[.string ⟨#[]⟩] 9); rwa [World.size_alloc] at this
  have b2 : CellsAt w3 (w.heap.size + 1 + 1) 9 #[.string ⟨#[]⟩] := by rw [← hw3]; have := CellsAt.new ((w.alloc (.cells #[.slice A0 l0.length c0, .slice A1 l1.length c1, .int .i64 a2, .int .i64 a3] 30)).alloc (.cells #[.int .i64 a1] 3)) 9 #[.string ⟨#[]⟩]; rwa [World.size_alloc, World.size_alloc] at this
  have hsz : w3.heap.size = w.heap.size + 1 + 1 + 1 := by rw [← hw3]; simp
  have hB3 : Below w.heap.size w w3 := by rw [← hw3]; exact (((Below.refl _ w).alloc (Nat.le_refl _) _).alloc (by simp) _).alloc (by simp; omega) _
  have B0 := Aside0.mk b0
  have B1 := Aside0.mk b1
  have B2 := Aside0.mk b2
  have HS := Aside0.mk hsz
  have HB := Aside0.mk hB3
  have hz0 : w3.cell? ⟨w.heap.size, 0, none⟩ = some (.slice A0 l0.length c0) := b0.cell 0
  have hz1 : w3.cell? ⟨w.heap.size, 1, none⟩ = some (.slice A1 l1.length c1) := b0.cell 1
  have hz2 : w3.cell? ⟨w.heap.size, 2, none⟩ = some (.int .i64 a2) := b0.cell 2
  have hz3 : w3.cell? ⟨w.heap.size, 3, none⟩ = some (.int .i64 a3) := b0.cell 3
  clear b0 b1 b2 hsz hB3
  cases hd : diskOk l0 l1 a2 a3 with
  | false =>
    rw [hd] at e1 HRES
    have hr := HRES.out
    rw [if_neg (by simp)] at hr
    subst hr
    clear e2 HRES
    refine (callsIn_wide (n := 9)).1 ?_
    refine callsIn_of_wp_marks Try.func33 rfl trivial ?_ rfl
    simp only [Try.ntmps33, List.size_toArray, List.length_cons, List.length_nil, Nat.reduceAdd, Nat.reduceSub, Array.replicate_succ, Array.replicate_zero, List.push_toArray, List.append_toArray, List.nil_append, List.cons_append]
    gi_wp2_with (first | (refine ⟨trivial, ?_⟩; gi_at_call 31; refine (callsIn_wide.2 (impl_DiskOk.calls A0 c0 l0 A1 c1 l1 a2 a3 false _ (Kd.C_below HR0.out HB.out) HC0.out (Kd.C_below HR1.out HB.out) HC1.out e1.out)).mono ?_; rintro e w4 ⟨rfl, hb⟩; have b4 := B2.out.below hb (by have := HS.out; omega); have c4 : w4.cell? ⟨w.heap.size + 1 + 1, 0, none⟩ = some (.string ⟨#[]⟩) := b4.cell 0; have f4 := b4.frozen 0; have HB4 := Aside0.mk (HB.out.trans (hb.mono (by have := HS.out; omega))); clear hb b4) | (refine ⟨trivial, ?_⟩))
    have hc5 := World.cell?_setCell_same' w4 ⟨w.heap.size + 1 + 1, 0, none⟩ (.string ⟨#[]⟩) (by rw [c4]; rfl)
    refine ⟨.string ByteArray.empty, ?_, rfl, HB4.out.setCell (p := ⟨w.heap.size + 1 + 1, 0, none⟩) (by simp; omega) _⟩
    simp [results, Try.f33, go_sem, hc5]
    rfl
  | true =>
    rw [hd] at e1 HRES
    cases hi : (decide (0 ≤ a1) && decide (a1 ≤ 41)) with
    | false =>
      rw [hi] at e2 HRES
      have hr := HRES.out
      rw [if_neg (by simp)] at hr
      subst hr
      clear HRES
      refine (callsIn_wide (n := 9)).1 ?_
      refine callsIn_of_wp_marks Try.func33 rfl trivial ?_ rfl
      simp only [Try.ntmps33, List.size_toArray, List.length_cons, List.length_nil, Nat.reduceAdd, Nat.reduceSub, Array.replicate_succ, Array.replicate_zero, List.push_toArray, List.append_toArray, List.nil_append, List.cons_append]
      gi_wp2_with (first | (refine ⟨trivial, ?_⟩; gi_at_call 31; refine (callsIn_wide.2 (impl_DiskOk.calls A0 c0 l0 A1 c1 l1 a2 a3 true _ (Kd.C_below HR0.out HB.out) HC0.out (Kd.C_below HR1.out HB.out) HC1.out e1.out)).mono ?_; rintro e w4 ⟨rfl, hb⟩; have b1 := B1.out.below hb (by have := HS.out; omega); have b2 := B2.out.below hb (by have := HS.out; omega); have b0 := B0.out.below hb (by have := HS.out; omega); have d4 : w4.cell? ⟨w.heap.size + 1, 0, none⟩ = some (.int .i64 a1) := b1.cell 0; have hs4 := hb.size; have HB4 := HB.out.trans (hb.mono (by have := HS.out; omega)); clear hb HB) | (refine ⟨trivial, ?_⟩; gi_at_call 72; refine (callsIn_wide.2 (impl_isCell.calls a1 false _ e2.out)).mono ?_; rintro e w5 ⟨rfl, ⟨m, hm⟩⟩; have B15 := Aside0.mk (b1.drewN m); have B25 := Aside0.mk (b2.drewN m); have B05 := Aside0.mk (b0.drewN m); have HB5 : Aside0 (Below w.heap.size w (w4.drewN m)) := ⟨HB4.trans (Below.drewN_ w4 m)⟩; have hs5 : w3.heap.size ≤ (w4.drewN m).heap.size := hs4; rw [← hm] at B15 B25 B05 HB5 hs5; clear hm d4 hs4 HB4 b0 b1 b2; have b25 := B25.out; have c5 : w5.cell? ⟨w.heap.size + 1 + 1, 0, none⟩ = some (.string ⟨#[]⟩) := b25.cell 0; have f5 := b25.frozen 0; clear b25))
      have hc5 := World.cell?_setCell_same' w5 ⟨w.heap.size + 1 + 1, 0, none⟩ (.string ⟨#[]⟩) (by rw [c5]; rfl)
      refine ⟨.string ByteArray.empty, ?_, rfl, HB5.out.setCell (p := ⟨w.heap.size + 1 + 1, 0, none⟩) (by simp; omega) _⟩
      simp [results, Try.f33, go_sem, hc5]
      rfl
    | true =>
      rw [hi] at e2 HRES
      have hr := HRES.out
      rw [if_pos ⟨rfl, rfl⟩] at hr
      subst hr
      clear HRES
      refine (callsIn_wide (n := 9)).1 ?_
      refine callsIn_of_wp_marks Try.func33 rfl trivial ?_ rfl
      simp only [Try.ntmps33, List.size_toArray, List.length_cons, List.length_nil, Nat.reduceAdd, Nat.reduceSub, Array.replicate_succ, Array.replicate_zero, List.push_toArray, List.append_toArray, List.nil_append, List.cons_append]
      gi_wp2_with (first | (refine ⟨trivial, ?_⟩; gi_at_call 31; refine (callsIn_wide.2 (impl_DiskOk.calls A0 c0 l0 A1 c1 l1 a2 a3 true _ (Kd.C_below HR0.out HB.out) HC0.out (Kd.C_below HR1.out HB.out) HC1.out e1.out)).mono ?_; rintro e w4 ⟨rfl, hb⟩; have b1 := B1.out.below hb (by have := HS.out; omega); have b2 := B2.out.below hb (by have := HS.out; omega); have b0 := B0.out.below hb (by have := HS.out; omega); have d4 : w4.cell? ⟨w.heap.size + 1, 0, none⟩ = some (.int .i64 a1) := b1.cell 0; have hs4 := hb.size; have HB4 := HB.out.trans (hb.mono (by have := HS.out; omega)); clear hb HB) | (refine ⟨trivial, ?_⟩; gi_at_call 72; refine (callsIn_wide.2 (impl_isCell.calls a1 true _ e2.out)).mono ?_; rintro e w5 ⟨rfl, ⟨m, hm⟩⟩; have B15 := Aside0.mk (b1.drewN m); have B25 := Aside0.mk (b2.drewN m); have B05 := Aside0.mk (b0.drewN m); have HB5 : Aside0 (Below w.heap.size w (w4.drewN m)) := ⟨HB4.trans (Below.drewN_ w4 m)⟩; have hs5 : w3.heap.size ≤ (w4.drewN m).heap.size := hs4; rw [← hm] at B15 B25 B05 HB5 hs5; clear hm d4 hs4 HB4 b0 b1 b2; have b05 := B05.out; have z0 : w5.cell? ⟨w.heap.size, 0, none⟩ = some (.slice A0 l0.length c0) := b05.cell 0; have z1 : w5.cell? ⟨w.heap.size, 1, none⟩ = some (.slice A1 l1.length c1) := b05.cell 1; have z2 : w5.cell? ⟨w.heap.size, 2, none⟩ = some (.int .i64 a2) := b05.cell 2; have z3 : w5.cell? ⟨w.heap.size, 3, none⟩ = some (.int .i64 a3) := b05.cell 3; clear b05) | (refine ⟨trivial, ?_⟩; gi_at_call 75; refine (backW_in Fence.wide _ trivial rfl _ _ _ _).mono ?_; rintro e w6 ⟨rfl, hw6⟩))
      have hlen : l1.length ≤ 100 := by
        unfold diskOk at hd
        simp only [Bool.and_eq_true, decide_eq_true_eq] at hd
        exact hd.1.1.1.1.2
      have hsz := HS.out
      have hB5 := HB5.out
      obtain ⟨W0, hW0⟩ : ∃ W0, w5.alloc (.cells #[.slice A1 l1.length c1] 28) = W0 := ⟨_, rfl⟩
      have hBW0 : Below w.heap.size w W0 := by rw [← hW0]; exact hB5.alloc (by omega) _
      have hs0 : W0.heap.size = w5.heap.size + 1 := by rw [← hW0]; simp
      have s0 : CellsAt W0 w5.heap.size 28 #[.slice A1 l1.length c1] := by rw [← hW0]; exact CellsAt.new _ _ _
      have s1 : CellsAt W0 w.heap.size 30 #[.slice A0 l0.length c0, .slice A1 l1.length c1, .int .i64 a2, .int .i64 a3] := by rw [← hW0]; exact B05.out.alloc _
      have s2 : CellsAt W0 (w.heap.size + 1) 3 #[.int .i64 a1] := by rw [← hW0]; exact B15.out.alloc _
      have s3 : CellsAt W0 (w.heap.size + 1 + 1) 9 #[.string ⟨#[]⟩] := by rw [← hW0]; exact B25.out.alloc _
      rw [hW0]
      clear hW0 hw6 z0 z1 z2 z3 B05 B15 B25 HB5 hB5
      refine wpIn_rangeFunc_ownH rfl (by decide) (gf := 107) (lb := #[.pointer (some ⟨w5.heap.size, 0, none⟩)]) rfl trivial (enters_of Try.func107 (by kernel_rfl) rfl)
        (backW_stops Fence.wide _ trivial rfl (by decide) w5.heap.size w A1 c1 l1 HC1.out (by omega) HR1.out W0 hBW0 s0) KpB.trans (kpB_b (by omega) (by omega)) (Below.refl _ _) (fun _ => rfl)
        (fun pre W => (((CellsAt W w.heap.size 30 #[.slice A0 l0.length c0, .slice A1 l1.length c1, .int .i64 a2, .int .i64 a3] ∧ CellsAt W (w.heap.size + 1) 3 #[.int .i64 a1]) ∧ (CellsAt W (w.heap.size + 1 + 1) 9 #[.string ⟨#[]⟩] ∧ CellsAt W w5.heap.size 28 #[.slice A1 l1.length c1])) ∧ ∀ p ∈ pre, p.2.f0 ≠ a1) ∧ Below w.heap.size w W)
        (fun c pre W => (c = .ret ∧ ∃ ini last, pre = ini ++ [last] ∧ (∀ p ∈ ini, p.2.f0 ≠ a1) ∧ last.2.f0 = a1 ∧ CellsAt W (w.heap.size + 1 + 1) 9 #[.string last.2.f1]) ∧ Below w.heap.size w W)
        (OwnFrom.and (OwnFrom.and (OwnFrom.and (OwnFrom.and (Own.from (cellsAt_own _ _ _) _) (Own.from (cellsAt_own _ _ _) _)) (OwnFrom.and (Own.from (cellsAt_own _ _ _) _) (Own.from (cellsAt_own _ _ _) _))) (fun _ _ _ _ hs _ _ => hs)) (ownFrom_below (Nat.le_refl _) (by omega)))
        (fun c => OwnFrom.and (fun s X Y row hs hg hr => by obtain ⟨hc, ini, last, q1, q2, q3, q4⟩ := hs; exact ⟨hc, ini, last, q1, q2, q3, cellsAt_own _ _ (fun (_ : Unit) => #[Value.string last.2.f1]) () X Y row q4 hg (fun r e => (hr r e).2)⟩) (ownFrom_below (Nat.le_refl _) (by omega)))
        ⟨⟨⟨⟨s1, s2⟩, s3, s0⟩, by simp⟩, hBW0⟩
        (fun x a' W => ∃ Bx, w.heap.size + 1 + 1 < Bx ∧ CellsAt W Bx 54 #[.int .i64 x.2.f0, .string x.2.f1] ∧ a' = { tmps := #[.agg #[.slice A0 l0.length c0, .slice A1 l1.length c1, .int .i64 a2, .int .i64 a3], .int .i64 a1, .pointer (some ⟨w.heap.size, 0, none⟩), .pointer (some ⟨w.heap.size + 1, 0, none⟩), .pointer (some ⟨w.heap.size + 1 + 1, 0, none⟩), undef, .pointer (some ⟨Bx, 0, none⟩), .agg #[.slice A0 l0.length c0, .slice A1 l1.length c1, .int .i64 a2, .int .i64 a3], .bool true, .bool false, .bool false, .int .i64 a1, .bool true, .bool false, .bool false, .pointer (some ⟨w.heap.size, 1, none⟩), .slice A1 l1.length c1, .func (.func 107) #[] #[.pointer (some ⟨w5.heap.size, 0, none⟩)], .int .i64 x.1, .agg #[.int .i64 x.2.f0, .string x.2.f1], undef, undef, undef, undef, undef, undef, undef, undef, undef, undef, undef], defers := [] })
        (fun x a' _ X Y row hs hg hr => by obtain ⟨Bx, q1, q2, q3⟩ := hs; exact ⟨Bx, q1, cellsAt_own _ _ (fun (_ : Unit) => #[Value.int .i64 x.2.f0, Value.string x.2.f1]) () X Y row q2 hg (fun r e => (hr r e).2), q3⟩)
        ?assign ?body ?done ?stop
      case assign =>
        rintro l pre x W K ⟨⟨⟨⟨t1, t2⟩, t3, t0⟩, tp⟩, tB⟩ hK
        simp only [encW]
        have hl3 := t3.lt
        have hl0 := t0.lt
        gi_wp2
        exact hK _ _ ((KeepsOthers.alloc _ _).from _) ⟨(Below.refl _ W).alloc tB.size _, Below.heap_alloc _ _ _ hl0⟩ ⟨⟨⟨⟨t1.alloc _, t2.alloc _⟩, t3.alloc _, t0.alloc _⟩, tp⟩, tB.alloc tB.size _⟩ ⟨W.heap.size, hl3, CellsAt.new W _ _, rfl⟩
      case body =>
        rintro l pre x a' W hl ⟨r, hr⟩ ⟨⟨⟨⟨t1, t2⟩, t3, t0⟩, tp⟩, tB⟩ ⟨Bx, hBx, tx, rfl⟩ hlt
        have u0 : W.cell? ⟨Bx, 0, none⟩ = some (.int .i64 x.2.f0) := tx.cell 0
        have u1 : W.cell? ⟨Bx, 1, none⟩ = some (.string x.2.f1) := tx.cell 1
        have u2 : W.cell? ⟨w.heap.size + 1, 0, none⟩ = some (.int .i64 a1) := t2.cell 0
        have u3 : W.cell? ⟨w.heap.size + 1 + 1, 0, none⟩ = some (.string ⟨#[]⟩) := t3.cell 0
        have g3 := t3.frozen 0
        by_cases hx : x.2.f0 = a1
        · have hx1 : (x.2.f0 == a1) = true := beq_iff_eq.mpr hx
          gi_wp2
          exact ⟨(KeepsOthers.setCell _ _ _).from _, ⟨rfl, pre, x, rfl, tp, hx, Boxed.set _ t3⟩, tB.setCell (p := ⟨w.heap.size + 1 + 1, 0, none⟩) (by simp; omega) _⟩
        · have hx1 : (x.2.f0 == a1) = false := beq_eq_false_iff_ne.mpr hx
          gi_wp2
          exact ⟨KeepsFrom.refl _ _, KpB.refl _ _ _, ⟨⟨⟨t1, t2⟩, t3, t0⟩, fun p hp => (List.mem_append.1 hp).elim (tp p) (fun e => by simp at e; subst e; exact hx)⟩, tB⟩
      case done =>
        rintro D ys W hD rfl ⟨⟨⟨⟨t1, t2⟩, t3, t0⟩, tp⟩, tB⟩ hK
        have u2 : W.cell? ⟨w.heap.size + 1, 0, none⟩ = some (.int .i64 a1) := t2.cell 0
        have u3 : W.cell? ⟨w.heap.size + 1 + 1, 0, none⟩ = some (.string ⟨#[]⟩) := t3.cell 0
        have g3 := t3.frozen 0
        have v0 : W.cell? ⟨w.heap.size, 0, none⟩ = some (.slice A0 l0.length c0) := t1.cell 0
        have v1 : W.cell? ⟨w.heap.size, 1, none⟩ = some (.slice A1 l1.length c1) := t1.cell 1
        have v2 : W.cell? ⟨w.heap.size, 2, none⟩ = some (.int .i64 a2) := t1.cell 2
        have v3 : W.cell? ⟨w.heap.size, 3, none⟩ = some (.int .i64 a3) := t1.cell 3
        have hlc : l0.length = 42 := by
          unfold diskOk at hd
          simp only [Bool.and_eq_true, decide_eq_true_eq] at hd
          exact hd.1.1.1.1.1
        have hin : 0 ≤ a1 ∧ a1 ≤ 41 := by simpa using hi
        obtain ⟨ad, eA, hx0⟩ := Kd.at_string (Kd.C_below HR0.out tB) a1 hin.1 (by omega)
        subst eA
        have p0 := eq_true hin.1
        have q0 : (a1 < (l0.length : Int)) = True := eq_true (by omega)
        gi_wp2
        have hK' := (KeepsOthers.setCell W ⟨w.heap.size + 1 + 1, 0, none⟩ (.string (rdOf ByteArray.empty l0 a1))).same D _ hK rfl
        refine ⟨by simp, .inl ⟨_, _, rfl, run_takeDeferred hK', ?_⟩⟩
        have hc5 := cell_kept (World.cell?_setCell_same' W ⟨w.heap.size + 1 + 1, 0, none⟩ (.string (rdOf ByteArray.empty l0 a1)) (by rw [u3]; rfl)) (grownBy_putObj' _ D (.deferred none)) (fun r e => by cases e; exact ⟨_, hK', rfl⟩)
        refine ⟨.string (rdOf ByteArray.empty l0 a1), ?_, by rw [readF_none l1 l0 a1 tp], (tB.setCell (p := ⟨w.heap.size + 1 + 1, 0, none⟩) (by simp; omega) _).trans (belowK_b (w := w) (Nat.le_refl _) _ D _ _ (by omega) hK' rfl rfl)⟩
        simp [results, Try.f33, go_sem, hc5]
      case stop =>
        rintro D c pre W hD ⟨k, hk, rfl⟩ ⟨⟨rfl, ini, last, q1, q2, q3, q4⟩, tB⟩ hK
        gi_wp2
        refine ⟨by simp, .inl ⟨_, _, rfl, run_takeDeferred hK, ?_⟩⟩
        have q5 : W.cell? ⟨w.heap.size + 1 + 1, 0, none⟩ = some (.string last.2.f1) := q4.cell 0
        have hc5 := cell_kept q5 (grownBy_putObj' _ D (.deferred none)) (fun r e => by cases e; exact ⟨_, hK, rfl⟩)
        refine ⟨.string last.2.f1, ?_, by rw [readF_some l1 l0 a1 k hk ini last q1 q2 q3], tB.trans (belowK_b (w := w) (Nat.le_refl _) W D _ _ (by omega) hK rfl rfl)⟩
        simp [results, Try.f33, go_sem, hc5]
end Go.Proofs.Ytldjfonpegffiaa.Q
end

section
/-! Rf: what the contracts of the library say is what the run takes them to say. -/
set_option autoImplicit false
namespace Go.Proofs.Ytldjfonpegffiaa.R
open Go.Rf Go.RowKit
theorem ans_below {sp : Go.Rf.Spec} {out : sp.Out} {w w' : World} {Z : Nat → Prop} {args rvs : List Value} (hZ : ∀ b, Z b → b < w.heap.size) (hb : Below w.heap.size w w') (hr : ShsRep w' Z sp.rs out.1 rvs []) (hp : PostRep w w' Z sp.ps out.2 args []) :
    AnsS sp out w Z args [] (.returned (tupV rvs)) w' :=
  ⟨rvs, Z, [], [], rfl, hr, hp, by simp, (fun b hb => by cases hb), (fun b hb => hb), fun b hz => ⟨Nat.lt_of_lt_of_le (hZ b hz) hb.size, .inl hz⟩, ⟨hb.os, hb.tape, hb.output, hb.size, fun b hlt _ => hb.block b hlt, fun b o ho _ => (hb.block b (Array.getElem?_eq_some_iff.1 ho).1).trans ho⟩⟩
/-- two arguments of one cell each -/
theorem two_args {w : World} {Z : Nat → Prop} {s t : T} {x : s.D} {y : t.D} {args : List Value} {fp : List Nat} (h : ShsRep w Z [.c (.v s), .c (.v t)] (x, y, ()) args fp) : ∃ u v, args = [u, v] ∧ fp = [] ∧ rep w Z s x [u] ∧ rep w Z t y [v] := by
  match args, h with
  | [v1, v2], ⟨f, g, hfp, ⟨hv, hf⟩, ⟨f2, g2, hg2, ⟨hv2, hf2⟩, hg⟩⟩ =>
    obtain rfl : f = [] := hf
    obtain rfl : f2 = [] := hf2
    obtain rfl : g2 = [] := hg
    obtain rfl : g = [] := hg2
    obtain rfl : fp = [] := hfp
    exact ⟨v1, v2, rfl, rfl, hv, hv2⟩
theorem one_arg {w : World} {Z : Nat → Prop} {s : T} {x : s.D} {args : List Value} {fp : List Nat} (h : ShsRep w Z [.c (.v s)] (x, ()) args fp) : ∃ u, args = [u] ∧ fp = [] ∧ rep w Z s x [u] := by
  match args, h with
  | [v1], ⟨f, g, hfp, ⟨hv, hf⟩, hg⟩ =>
    obtain rfl : f = [] := hf
    obtain rfl : g = [] := hg
    obtain rfl : fp = [] := hfp
    exact ⟨v1, rfl, rfl, hv⟩
theorem str_arg {w : World} {Z : Nat → Prop} {s : ByteArray} {v : Value} (h : rep w Z .str s [v]) : v = .string s := (List.cons.inj (show [v] = [Value.string s] from h)).1
theorem int_arg {w : World} {Z : Nat → Prop} {k : IntKind} {n : Int} {v : Value} (h : rep w Z (.int k) n [v]) : v = .int k n := (List.cons.inj (show [v] = [Value.int k n] from h)).1
theorem post_two {w w' : World} {Z : Nat → Prop} {s t : T} {u v : Value} : PostRep w w' Z [.c (.v s), .c (.v t)] ((), (), ()) [u, v] [] := ⟨[], [], rfl, rfl, ⟨[], [], rfl, rfl, rfl⟩⟩
theorem post_one {w w' : World} {Z : Nat → Prop} {s : T} {u : Value} : PostRep w w' Z [.c (.v s)] ((), ()) [u] [] := ⟨[], [], rfl, rfl, rfl⟩
section
open Go.Proofs.Ytldjfonpegffiaa.Q Go.Proofs.YtldjfonpegffiaaW.PrintWords
theorem reads_strs {w : World} {Z : Nat → Prop} {l : List ByteArray} {v : Value} (h : rep w Z (.sl .str) l [v]) (hl : l.length ≤ 1048576) : ∃ A c, v = .slice A l.length c ∧ l.length ≤ c ∧ Kd.C Kd.string w A l.length l := by
  obtain ⟨A, c, vs, h1, h2, h3, h4⟩ := h
  refine ⟨A, c, (List.cons.inj h1).1, h2, rfl, by omega, fun h0 => ?_⟩
  have at' : ∀ j p, l[j]? = some p → ∃ a : Addr, A = some a ∧ w.cell? (a.add j) = some (.string p) := fun j p hp => by
    obtain ⟨cs, hr, hg⟩ := reps.get (n := 1) (fun x c h => by rw [show c = [.string x] from h]; rfl) h3 j p hp
    obtain rfl : cs = [.string p] := hr
    obtain ⟨a, ha, _, _, hc⟩ := h4 (j * 1 + 0) (.string p) (hg 0 _ rfl)
    exact ⟨a, ha, by rw [show j * 1 + 0 = j by omega] at hc; exact hc⟩
  obtain ⟨a, ha, _⟩ := at' 0 l[0] (List.getElem?_eq_getElem h0)
  refine ⟨a, ha, fun j p hp => ⟨[.string p], rfl, rfl, fun i u hu => ?_⟩⟩
  obtain ⟨a', ha', hc⟩ := at' j p hp
  obtain rfl := Option.some.inj (ha.symm.trans ha')
  cases i with
  | zero =>
    obtain rfl := Option.some.inj hu
    show w.cell? (a.add (j * 1 + 0)) = _
    rw [show j * 1 + 0 = j by omega]
    exact hc
  | succ i => simp at hu
def toS (x : Int × ByteArray × Unit) : S54 := ⟨x.1, x.2.1⟩
theorem reads_waits {w : World} {Z : Nat → Prop} {l : List (Int × ByteArray × Unit)} {v : Value} (h : rep w Z (.sl (.pair (.int .i64) (.pair .str .unit))) l [v]) (hl : l.length ≤ 1048576) : ∃ A c, v = .slice A (l.map toS).length c ∧ (l.map toS).length ≤ c ∧ Kd.C k54 w A (l.map toS).length (l.map toS) := by
  obtain ⟨A, c, vs, h1, h2, h3, h4⟩ := h
  rw [List.length_map]
  refine ⟨A, c, (List.cons.inj h1).1, h2, by rw [List.length_map], by omega, fun h0 => ?_⟩
  have at' : ∀ j p, l[j]? = some p → ∀ i u, [Value.int .i64 p.1, .string p.2.1][i]? = some u → ∃ a : Addr, A = some a ∧ w.cell? (a.add (j * 2 + i)) = some u := fun j p hp i u hu => by
    obtain ⟨cs, hr, hg⟩ := reps.get (n := 2) (fun x c h => by
      obtain ⟨c1, d1, rfl, q1, c2, d2, rfl, q2, q3⟩ := h
      rw [show c1 = [.int .i64 x.1] from q1, show c2 = [.string x.2.1] from q2, show d2 = [] from q3]
      rfl) h3 j p hp
    obtain ⟨c1, d1, rfl, q1, c2, d2, rfl, q2, q3⟩ := hr
    have e : c1 ++ (c2 ++ d2) = [.int .i64 p.1, .string p.2.1] := by
      rw [show c1 = [.int .i64 p.1] from q1, show c2 = [.string p.2.1] from q2, show d2 = [] from q3]
      rfl
    obtain ⟨a, ha, _, _, hc⟩ := h4 (j * 2 + i) u (hg i u (by rw [e]; exact hu))
    exact ⟨a, ha, hc⟩
  obtain ⟨a, ha, _⟩ := at' 0 l[0] (List.getElem?_eq_getElem h0) 0 _ rfl
  refine ⟨a, ha, fun j p hp => ?_⟩
  rw [List.getElem?_map] at hp
  obtain ⟨q, hq, rfl⟩ := Option.map_eq_some_iff.1 hp
  refine ⟨[.int .i64 q.1, .string q.2.1], rfl, ⟨[.int .i64 q.1], [.string q.2.1], rfl, rfl, rfl⟩, fun i u hu => ?_⟩
  obtain ⟨a', ha', hc⟩ := at' j q hq i u hu
  obtain rfl := Option.some.inj (ha.symm.trans ha')
  exact hc
theorem diskOk_toS (c : List ByteArray) (ws : List (Int × ByteArray × Unit)) (r l : Int) : diskOk c (ws.map toS) r l = diskOkL c ws r l := by
  unfold diskOk diskOkL
  rw [List.length_map, List.all_map]
  rfl
theorem read_toS (c : List ByteArray) (ws : List (Int × ByteArray × Unit)) (a : Int) : readF (ws.map toS) c a = readL ws c a := by
  unfold readF readL
  rw [← List.map_reverse, List.find?_map]
  show (match Option.map toS (ws.reverse.find? fun w => w.1 == a) with | some w => w.f1 | none => rdOf ByteArray.empty c a) = _
  cases ws.reverse.find? (fun w => w.1 == a) <;> rfl
end
theorem diskread_contract (inp : (cx.spec 33).In) (out : (cx.spec 33).Out) (h : diskreadR inp = some out) : Contract cx 33 inp out := by
  obtain ⟨⟨c, ws, ro, le, u⟩, a, u2⟩ := inp
  unfold diskreadR at h
  dsimp only at h
  obtain ⟨h1, h2⟩ := Go.Rf.cond_some h
  rw [Bool.and_eq_true] at h1
  have hc := Nat.le_of_ble_eq_true h1.1
  have hw := Nat.le_of_ble_eq_true h1.2
  obtain rfl := Option.some.inj h2
  intro w Z args fp hrep _ _ hZ hGL
  match args, hrep with
  | [v1, v2], hrep =>
    obtain ⟨f, g, hfp, ⟨us, rfl, hS⟩, ⟨f2, g2, hg2, ⟨hv2, hf2⟩, hg⟩⟩ := hrep
    obtain ⟨us⟩ := us
    match us, hS with
    | [x1, x2, x3, x4], hS =>
      obtain ⟨f3, g3, e3, ⟨y1, z1⟩, f4, g4, e4, ⟨y2, z2⟩, f5, g5, e5, ⟨y3, z3⟩, f6, g6, e6, ⟨y4, z4⟩, e7⟩ := hS
      obtain rfl : f2 = [] := hf2
      obtain rfl : g2 = [] := hg
      obtain rfl : g = [] := hg2
      obtain rfl : f6 = [] := z4
      obtain rfl : g6 = [] := e7
      obtain rfl : g5 = [] := e6
      obtain rfl : f5 = [] := z3
      obtain rfl : g4 = [] := e5
      obtain rfl : f4 = [] := z2
      obtain rfl : g3 = [] := e4
      obtain rfl : f3 = [] := z1
      obtain rfl : f = [] := e3
      obtain rfl : fp = [] := hfp
      obtain ⟨A0, c0, rfl, k0, r0⟩ := reads_strs y1 hc
      obtain ⟨A1, c1, rfl, k1, r1⟩ := reads_waits y2 hw
      obtain rfl : x3 = .int .i64 ro := (List.cons.inj y3).1
      obtain rfl : x4 = .int .i64 le := (List.cons.inj y4).1
      obtain rfl : v2 = .int .i64 a := (List.cons.inj hv2).1
      have hf : Q.impl_DiskRead.f c (ws.map toS) ro le a = some (if diskOkL c ws ro le = true ∧ 0 ≤ a ∧ a ≤ 41 then readL ws c a else ByteArray.empty) := by
        unfold Q.impl_DiskRead.f
        rw [diskOk_toS, read_toS]
        split <;> rfl
      refine (Q.impl_DiskRead.calls A0 c0 c A1 c1 (ws.map toS) ro le a _ w r0 k0 r1 k1 hf).mono ?_
      rintro e w' ⟨rfl, hb⟩
      refine ans_below (rvs := [.string _]) hZ hb ⟨[], [], rfl, ⟨rfl, rfl⟩, rfl⟩ ?_
      exact ⟨[], [], rfl, ⟨_, rfl, rfl⟩, ⟨[], [], rfl, rfl, rfl⟩⟩
theorem told (k f : Nat) (inp : (cx.spec f).In) (out : (cx.spec f).Out) (h : callF cx k f inp = some out) : Go.Rf.Contract cx f inp out := (Go.Rf.run_ok good (fun f g inp out h h2 => by
  have h : extR f = some g := h
  by_cases e33 : f = 33
  · subst e33
    obtain rfl := Option.some.inj h
    exact diskread_contract inp out h2
  · exfalso
    unfold extR at h
    split at h
    · exact e33 rfl
    · cases h) k).1 f inp out h
end Go.Proofs.Ytldjfonpegffiaa.R
end

section
/-! Rf: the row of a law, out of its pure statement. -/
set_option autoImplicit false
namespace Go.Proofs.Ytldjfonpegffiaa.fnDiskCrash
open Go.Rf Go.Proofs.Ytldjfonpegffiaa.R Go.ChangeShapes Go.WideShapes Go.ChangeAt Go.RowKit
set_option linter.unusedVariables false
theorem walk (P : PureFnDiskCrash) (w : World) (v0 : Value) (y0 : (vSh ⟨false, [.sl (.int .u8)], [], 24⟩).D) (h0 : ShRep w (Here w) (vSh ⟨false, [.sl (.int .u8)], [], 24⟩) y0 v0 []) (w0 : shWf (vSh ⟨false, [.sl (.int .u8)], [], 24⟩) y0) :
    Calls Try.prog 9 #[v0] w fun e w' => e = .returned (.bool true) ∧ Below w.heap.size w w' := by
  obtain ⟨k, p, h⟩ := P y0 w0
  have h' : callF cx k 9 (y0, ()) = some ((true, ()), p) := h
  have hr : ShsRep w (Here w) (cx.spec 9).ps (y0, ()) [v0] [] := ⟨[], [], rfl, h0, rfl⟩
  exact law_calls (told k 9 _ _ h') hr ⟨(fun _ _ h => by cases h), (fun _ _ h => by cases h)⟩ (fun w' Z vs fp h => res_bool h)
theorem own : ownKnob Try.prog.godebug = none := by kernel_rfl
theorem laidOut : laidOutB Try.prog = true := by kernel_rfl
set_option maxRecDepth 100000 in
theorem lifted (P : PureFnDiskCrash) (os : Os) (started : os.Started) (H : Type) (enc : TypeId × Value → H) :
    ReturnsInHanded {} Try.checked os 9 .any (Rows.fnDiskCrashSpec.pre6 enc Try.prog Try.f9 Rows.fnDiskCrashRow.domain false) (Rows.fnDiskCrashSpec.post enc Try.prog Try.f9 false true false false) := by
  refine returnsInHanded_of_change_sized (C := Try.checked) own started (by kernel_rfl) Try.func9
    (ChangeSpec.witness6 (enc := enc) (C := Try.checked) false ⟨#[], #[.slice none 0 0], []⟩ 12 (by kernel_rfl) (by kernel_rfl) (by kernel_rfl) (by kernel_rfl)) ?_
  intro W base args ds gs before hval0 hW hcnd hsz0 _
  have hval : ∀ (j : Nat) t v, Try.f9.params[j]? = some t → args[j]? = some v → Value.okWide Try.prog W .any base t v := hval0
  have hW' := hW
  obtain ⟨p, q, hA0, hV, rfl, hfz, hnd⟩ := hW
  have hA : DataW.TrodAll enc Try.prog W 0 (fun _ => true) true Try.f9.params.toList args.toList ds p := hA0
  rw [Try.params9] at hA hval
  obtain ⟨v0, vs0, d0, ds0, p0, q0, hargs, rfl, rfl, h0, r0⟩ := trodAll_cons hA
  obtain ⟨rfl, rfl, rfl⟩ := trodAll_nil r0
  obtain rfl : args = #[v0] := by cases args; simp_all
  obtain ⟨rfl, rfl⟩ := trodVars_none hV
  have k0 := h0
  have lt0 : ∀ x ∈ p0, x.block < W.heap.size := by obtain ⟨m, hm⟩ := k0; exact DataW.trod_lt m _ _ _ hm
  obtain ⟨y0, hy0, w0⟩ := opnArg_ok (tab := tabs.ty) (P := Try.prog) (t := 24) (i := ⟨false, [.sl (.int .u8)], [], 24⟩) (by kernel_rfl) (hval 0 24 v0 rfl rfl) h0
  clear hA0 hval0 hsz0
  refine (walk P W v0 y0 hy0 w0).mono fun e W' ⟨he, bel⟩ => ?_
  subst he
  exact ⟨_, rfl, _, _, _, [], _, [], hW', trodAll_mk1 (shut_bool Try.underlying4 _), (trodAll_cons_mk (Below.trod laidOut (by kernel_rfl) (of_decide_eq_true (by kernel_rfl)) k0 bel lt0) trodAll_mk0), rfl, bel.frame _, fun h => by cases h⟩
theorem over (P : PureFnDiskCrash) : Rows.fnDiskCrashRow.holds Try.pinned (OpenSpec.ofChange Rows.fnDiskCrashSpec) :=
  OpenClaim.holds_of_wide 9 Try.f9 rfl rfl rfl rfl rfl rfl rfl ⟨rfl, rfl, rfl, rfl, rfl⟩ rfl rfl rfl rfl rfl (by kernel_rfl) Try.func9 (by kernel_rfl)
    (of_decide_eq_true (by kernel_rfl)) (by unfold Func.isWrapper; first | (rw [if_pos (by decide +kernel)]; kernel_rfl) | (rw [if_neg (by decide +kernel)]; exact ⟨rfl, rfl⟩))
    (fun os started H enc _ => lifted P os started H enc)
end Go.Proofs.Ytldjfonpegffiaa.fnDiskCrash
end

section
/-! Rf, limbs: noughts at the end; which is greater. -/
set_option autoImplicit false
namespace Go.Proofs.Ytldjfonpegffiaa.R
open Go.Rf

theorem digs_len_le {n : Nat} {m : Nat} (h : n < 10000 ^ m) : (digs n).length ≤ m := by
  induction m generalizing n with
  | zero =>
    have : n = 0 := by simp at h; omega
    rw [this, digs_zero]
    simp
  | succ m ih =>
    by_cases h0 : n = 0
    · rw [h0, digs_zero]
      simp
    · rw [digs_pos h0, List.length_cons]
      have := ih (n := n / 10000) (by rw [Nat.pow_succ] at h; omega)
      omega
section
variable {a b : List Int} {A B : Nat}
theorem clamp_neg {D : Int} (h : D < 0) : (if (if D < 1 then D else 1) > -1 then (if D < 1 then D else 1) else -1) = -1 := by
  rw [if_pos (show D < 1 by omega), if_neg (by omega)]
theorem clamp_pos {D : Int} (h : 0 < D) : (if (if D < 1 then D else 1) > -1 then (if D < 1 then D else 1) else -1) = 1 := by
  rw [if_neg (show ¬ D < 1 by omega), if_pos (by omega)]
end
end Go.Proofs.Ytldjfonpegffiaa.R
end

section
/-! Rf, limbs: products, powers of ten. -/
set_option autoImplicit false
namespace Go.Proofs.Ytldjfonpegffiaa.R
open Go.Rf
theorem mul_small {x y : Int} (hx : 0 ≤ x ∧ x ≤ 9999) (hy : 0 ≤ y ∧ y ≤ 9999) : 0 ≤ x * y ∧ x * y ≤ 99980001 := by
  refine ⟨Int.mul_nonneg hx.1 hy.1, ?_⟩
  have := Int.mul_le_mul hx.2 hy.2 hy.1 (show (0 : Int) ≤ 9999 by omega)
  omega
theorem addN {i k : Nat} (h : i + k < 4611686018427387904) : IntKind.i64.wrap ((i : Int) + (k : Int)) = ((i + k : Nat) : Int) := by
  rw [wrap64 (by omega) (by omega)]
  omega
/-- one limb more of a product's row -/
theorem VI_row {x : List Int} {i k : Nat} {V0 ai c s n : Int} {b : List Int} (hk : k < b.length) (hx : i + k < x.length) (hV : VI x + c * 10000 ^ (i + k) = V0 + ai * VI (b.take k) * 10000 ^ i) (hn : n = x.getD (i + k) 0 + ai * b.getD k 0 + c) (hs : s = n % 10000) :
    VI (x.set (i + k) s) + n / 10000 * 10000 ^ (i + (k + 1)) = V0 + ai * VI (b.take (k + 1)) * 10000 ^ i := by
  have e1 : n = 10000 * (n / 10000) + s := by omega
  have e2 : (10000 : Int) ^ (i + (k + 1)) = 10000 ^ (i + k) * 10000 := by rw [← Nat.add_assoc, Int.pow_succ]
  have e3 : (10000 : Int) ^ (i + k) = 10000 ^ i * 10000 ^ k := Int.pow_add 10000 i k
  rw [VI_set hx, VI_take_succ hk, e2]
  rw [e3] at hV ⊢
  grind
section
variable {a b : List Int}
end
theorem digs_small {n : Nat} (h : 0 < n) (h2 : n < 10000) : digs n = [(n : Int)] := by
  rw [digs_pos (by omega), Nat.div_eq_of_lt h2, Nat.mod_eq_of_lt h2, digs_zero]
theorem VI_digs (n : Nat) : VI (digs n) = (n : Int) := (digs_spec n).2.2
theorem ten_len (i : Nat) : (digs (10 ^ i)).length ≤ i + 1 := digs_len_le (by
  have h1 : 10 ^ i ≤ 10000 ^ i := Nat.pow_le_pow_left (by omega) i
  have h2 : 0 < 10000 ^ i := Nat.pow_pos (by omega)
  rw [Nat.pow_succ]
  omega)
theorem tens_digs (q : Nat) {t : Nat} (h0 : 0 < t) (h1 : t < 10000) : List.replicate q (0 : Int) ++ [(t : Int)] = digs (t * 10000 ^ q) := by
  refine digs_of (fun d hd => ?_) (.inr ?_) ?_
  · rcases List.mem_append.1 hd with hd | hd
    · rw [(List.mem_replicate.1 hd).2]
      omega
    · rw [List.mem_singleton.1 hd]
      omega
  · rw [List.length_append, List.length_replicate, List.getD_eq_getElem?_getD, List.getElem?_append_right (by simp)]
    simp
    omega
  · rw [VI_append, VI_zeros, List.length_replicate]
    show (0 : Int) + 10000 ^ q * ((t : Int) + 10000 * 0) = ((t * 10000 ^ q : Nat) : Int)
    rw [Int.natCast_mul, Int.natCast_pow]
    grind
end Go.Proofs.Ytldjfonpegffiaa.R
end

section
/-! Rf, decimals: figures; what is in order. -/
set_option autoImplicit false
set_option linter.unusedSimpArgs false
namespace Go.Proofs.Ytldjfonpegffiaa.R
open Go.Rf
theorem l1In_ev (n lo hi : Int) : Ev (fun k => F73 k n lo hi) ((within n lo hi, ()), ((), (), (), ())) := by
  refine Ev.step 2 (fun k => F73_eq k n lo hi) ?_
  unfold within
  cases decide (n ≥ lo) with
  | true => exact Ev.now _
  | false => exact Ev.now _
theorem in_ev (n lo hi : Int) : Ev (fun k => F106 k n lo hi) ((within n lo hi, ()), ((), (), (), ())) := by
  refine Ev.step 2 (fun k => F106_eq k n lo hi) ?_
  unfold within
  cases decide (n ≥ lo) with
  | true => exact Ev.now _
  | false => exact Ev.now _
/-! ### figures -/
end Go.Proofs.Ytldjfonpegffiaa.R
end

section
/-! Rf: disks: in order, after a crash. -/
set_option autoImplicit false
set_option linter.unusedSimpArgs false
set_option linter.unusedVariables false
namespace Go.Proofs.Ytldjfonpegffiaa.R
open Go.Rf
abbrev Wt : Type := Int × ByteArray × Unit
theorem drop_get {α : Type} {l : List α} {i : Nat} (h : i < l.length) : l.drop i = l[i] :: l.drop (i + 1) := List.drop_eq_getElem_cons h
theorem get_some {α : Type} {l : List α} {i : Nat} (h : i < l.length) : l[i]? = some l[i] := List.getElem?_eq_getElem h
/-! ### in order -/
theorem idxS_ev (l : List ByteArray) (hl : l.length ≤ 1048576) : ∃ r, Ev (fun k => F70104 k l) r ∧ decide (r.1.1 ≥ (0 : Int)) = l.any (fun s => decide ((s.size : Int) > 1200)) := by
  have main : ∀ (m i : Nat), i + m = l.length → ∃ r, Ev (fun k => F70104c2 k l (l.length : Int) (i : Int)) r ∧ decide (r.1.1 ≥ (0 : Int)) = (l.drop i).any (fun s => decide ((s.size : Int) > 1200)) := by
    intro m
    induction m with
    | zero =>
      intro i hi
      refine ⟨((-1, ()), ((), (), ())), Ev.step 1 (fun k => F70104c2_eq k _ _ _) ?_, by rw [List.drop_eq_nil_of_le (by omega)]; rfl⟩
      simp only [lt_false (show l.length ≤ i by omega), Bool.false_eq_true, if_false]
      exact Ev.now _
    | succ m ih =>
      intro i hi
      have hlt : i < l.length := by omega
      rw [drop_get hlt, List.any_cons]
      have f : Ev (fun k => F69 k l[i]) ((decide ((l[i].size : Int) > 1200), ()), ((), ())) := Ev.step 2 (fun k => F69_eq k _) (Ev.now _)
      cases hc : decide ((l[i].size : Int) > 1200) with
      | true =>
        refine ⟨(((i : Int), ()), ((), (), ())), Ev.step 1 (fun k => F70104c2_eq k _ _ _) ?_, by simp⟩
        simp only [lt_true hlt, ge0, if_true, Int.toNat_natCast, get_some hlt, Option.bind_some]
        refine Ev.bind f ?_
        simp only [hc, if_true]
        exact Ev.now _
      | false =>
        obtain ⟨r, h1, h2⟩ := ih (i + 1) (by omega)
        refine ⟨r, Ev.step 1 (fun k => F70104c2_eq k _ _ _) ?_, by rw [h2]; simp⟩
        simp only [lt_true hlt, ge0, if_true, Int.toNat_natCast, get_some hlt, Option.bind_some]
        refine Ev.bind f ?_
        simp only [hc, Bool.false_eq_true, if_false, wrap_succ (show i < 9223372036854775807 by omega)]
        exact h1
  obtain ⟨r, h1, h2⟩ := main l.length 0 (by omega)
  exact ⟨r, Ev.step 2 (fun k => F70104_eq k _) h1, h2⟩
theorem isCell_ev (a : Int) : Ev (fun k => F72 k a) ((within a 0 41, ()), ((), ())) := Ev.step 2 (fun k => F72_eq k _) (Ev.bind (in_ev _ _ _) (Ev.now _))
theorem waitOk_not (w : Wt) : (if (!within w.1 0 41) = true then true else decide ((w.2.1.size : Int) > 1200)) = !waitOkL w := by
  have e : waitOkL w = (within w.1 0 41 && decide (w.2.1.size ≤ 1200)) := rfl
  rw [e]
  cases within w.1 0 41 with
  | false => rfl
  | true =>
    show decide ((w.2.1.size : Int) > 1200) = !(decide (w.2.1.size ≤ 1200))
    by_cases h : w.2.1.size ≤ 1200
    · rw [decide_eq_true h, decide_eq_false (by omega)]; rfl
    · rw [decide_eq_false h, decide_eq_true (by omega)]; rfl
theorem wait_ev (w : Wt) : Ev (fun k => F71 k w.1 w.2.1) ((!waitOkL w, ()), (((), (), ()), ())) := by
  refine Ev.step 2 (fun k => F71_eq k _ _) (Ev.bind (isCell_ev _) ?_)
  rw [← waitOk_not]
  cases h : within w.1 0 41 with
  | true =>
    simp only [Bool.not_true, Bool.false_eq_true, if_false]
    exact Ev.now _
  | false =>
    simp only [Bool.not_false, if_true]
    exact Ev.now _
theorem idxW_ev (l : List Wt) (hl : l.length ≤ 1048576) : ∃ r, Ev (fun k => F72105 k l) r ∧ decide (r.1.1 ≥ (0 : Int)) = l.any (fun w => !waitOkL w) := by
  have main : ∀ (m i : Nat), i + m = l.length → ∃ r, Ev (fun k => F72105c2 k l (l.length : Int) (i : Int)) r ∧ decide (r.1.1 ≥ (0 : Int)) = (l.drop i).any (fun w => !waitOkL w) := by
    intro m
    induction m with
    | zero =>
      intro i hi
      refine ⟨((-1, ()), ((), (), ())), Ev.step 1 (fun k => F72105c2_eq k _ _ _) ?_, by rw [List.drop_eq_nil_of_le (by omega)]; rfl⟩
      simp only [lt_false (show l.length ≤ i by omega), Bool.false_eq_true, if_false]
      exact Ev.now _
    | succ m ih =>
      intro i hi
      have hlt : i < l.length := by omega
      rw [drop_get hlt, List.any_cons]
      cases hc : (!waitOkL l[i]) with
      | true =>
        refine ⟨(((i : Int), ()), ((), (), ())), Ev.step 1 (fun k => F72105c2_eq k _ _ _) ?_, by simp⟩
        simp only [lt_true hlt, ge0, if_true, Int.toNat_natCast, get_some hlt, Option.bind_some]
        refine Ev.bind (wait_ev l[i]) ?_
        simp only [hc, if_true]
        exact Ev.now _
      | false =>
        obtain ⟨r, h1, h2⟩ := ih (i + 1) (by omega)
        refine ⟨r, Ev.step 1 (fun k => F72105c2_eq k _ _ _) ?_, by rw [h2]; simp⟩
        simp only [lt_true hlt, ge0, if_true, Int.toNat_natCast, get_some hlt, Option.bind_some]
        refine Ev.bind (wait_ev l[i]) ?_
        simp only [hc, Bool.false_eq_true, if_false, wrap_succ (show i < 9223372036854775807 by omega)]
        exact h1
  obtain ⟨r, h1, h2⟩ := main l.length 0 (by omega)
  exact ⟨r, Ev.step 2 (fun k => F72105_eq k _) h1, h2⟩
theorem any_cells (l : List ByteArray) : (!l.any (fun s => decide ((s.size : Int) > 1200))) = l.all (fun s => decide (s.size ≤ 1200)) := by
  induction l with
  | nil => rfl
  | cons s l ih =>
    rw [List.any_cons, List.all_cons, Bool.not_or, ih]
    congr 1
    by_cases h : s.size ≤ 1200
    · rw [decide_eq_true h, decide_eq_false (by omega)]; rfl
    · rw [decide_eq_false h, decide_eq_true (by omega)]; rfl
theorem any_waits (l : List Wt) : (!l.any (fun w => !waitOkL w)) = l.all waitOkL := by
  induction l with
  | nil => rfl
  | cons s l ih => rw [List.any_cons, List.all_cons, Bool.not_or, ih, Bool.not_not]
theorem DiskOk_im (c : List ByteArray) (w : List Wt) (r l : Int) (hc : c.length ≤ 1048576) (hw : w.length ≤ 1048576) : Ev (fun k => F31 k c w r l) ((diskOkL c w r l, ()), (((), (), (), (), ()), ())) := by
  obtain ⟨r1, g1, e1⟩ := idxS_ev c hc
  obtain ⟨r2, g2, e2⟩ := idxW_ev w hw
  have a1 := any_cells c
  have a2 := any_waits w
  rw [← e1] at a1
  rw [← e2] at a2
  refine Ev.step 2 (fun k => F31_eq k _ _ _ _) ?_
  unfold diskOkL
  rw [← a1, ← a2]
  by_cases h1 : c.length = 42
  · have b1 : ((c.length : Int) == 42) = true := by rw [h1]; rfl
    simp only [b1, if_true, decide_eq_true h1, Bool.true_and]
    refine Ev.bind (Ev.step 2 (fun k => F70068_eq k _) (Ev.bind g1 (Ev.now _))) ?_
    cases h2 : decide (r1.1.1 ≥ (0 : Int)) with
    | true =>
      simp only [Bool.not_true, Bool.false_eq_true, if_false, Bool.and_false, Bool.false_and]
      exact Ev.now _
    | false =>
      simp only [Bool.not_false, if_true, Bool.and_true]
      by_cases h3 : w.length ≤ 100
      · simp only [decide_eq_true (show (w.length : Int) ≤ 100 by omega), decide_eq_true h3, if_true, Bool.true_and]
        refine Ev.bind (Ev.step 2 (fun k => F72070_eq k _) (Ev.bind g2 (Ev.now _))) ?_
        cases h4 : decide (r2.1.1 ≥ (0 : Int)) with
        | true =>
          simp only [Bool.not_true, Bool.false_eq_true, if_false, Bool.and_false]
          exact Ev.now _
        | false =>
          simp only [Bool.not_false, if_true, Bool.and_true]
          by_cases h5 : -1 ≤ r
          · simp only [decide_eq_true (show r ≥ -1 from h5), decide_eq_true h5, if_true, Bool.true_and]
            exact Ev.now _
          · simp only [decide_eq_false (show ¬ r ≥ -1 from h5), decide_eq_false h5, Bool.false_eq_true, if_false, Bool.false_and]
            exact Ev.now _
      · simp only [decide_eq_false (show ¬ (w.length : Int) ≤ 100 by omega), decide_eq_false h3, Bool.false_eq_true, if_false, Bool.false_and]
        exact Ev.now _
  · have b1 : ((c.length : Int) == 42) = false := beq_eq_false_iff_ne.2 (by omega)
    simp only [b1, Bool.false_eq_true, if_false, decide_eq_false h1, Bool.false_and]
    exact Ev.now _
theorem l7Wait_ev (a : Int) (s : ByteArray) : Ev (fun k => F102 k a s) ((waitOkL (a, s, ()), ()), (((), (), ()), ())) := by
  refine Ev.step 2 (fun k => F102_eq k _ _) (Ev.bind (l1In_ev _ _ _) ?_)
  have e : waitOkL (a, s, ()) = (within a 0 41 && decide (s.size ≤ 1200)) := rfl
  rw [e]
  cases h : within a 0 41 with
  | true =>
    simp only [if_true, Bool.true_and]
    rw [show decide (s.size ≤ 1200) = decide ((s.size : Int) ≤ 1200) from decide_eq_decide.2 (by omega)]
    exact Ev.now _
  | false =>
    simp only [Bool.false_eq_true, if_false, Bool.false_and]
    exact Ev.now _
theorem l7Ok_ev (c : List ByteArray) (w : List Wt) (r l : Int) (hc : c.length ≤ 1048576) (hw : w.length ≤ 1048576) : Ev (fun k => F65 k c w r l) ((diskOkL c w r l, ()), (((), (), (), (), ()), ())) := by
  have lw : ∀ (m i : Nat), i + m = w.length → Ev (fun k => F65c9 k c w r l (i : Int)) (((w.drop i).all waitOkL, ()), (((), (), (), (), ()), ())) := by
    intro m
    induction m with
    | zero =>
      intro i hi
      refine Ev.step 1 (fun k => F65c9_eq k _ _ _ _ _) ?_
      rw [List.drop_eq_nil_of_le (by omega)]
      simp only [lt_false (show w.length ≤ i by omega), Bool.false_eq_true, if_false]
      exact Ev.now _
    | succ m ih =>
      intro i hi
      have hlt : i < w.length := by omega
      refine Ev.step 1 (fun k => F65c9_eq k _ _ _ _ _) ?_
      rw [drop_get hlt, List.all_cons]
      simp only [lt_true hlt, ge0, if_true, Int.toNat_natCast, get_some hlt, Option.bind_some]
      refine Ev.bind (l7Wait_ev w[i].1 w[i].2.1) ?_
      show Ev (fun k => if (!waitOkL w[i]) = true then _ else _) _
      cases waitOkL w[i] with
      | true =>
        simp only [Bool.not_true, Bool.false_eq_true, if_false, Bool.true_and, wrap_succ (show i < 9223372036854775807 by omega)]
        exact ih (i + 1) (by omega)
      | false =>
        simp only [Bool.not_false, if_true, Bool.false_and]
        exact Ev.now _
  have lc : ∀ (m i : Nat), i + m = c.length → Ev (fun k => F65c4 k c w r l (i : Int)) (((c.drop i).all (fun s => decide (s.size ≤ 1200)) && w.all waitOkL, ()), (((), (), (), (), ()), ())) := by
    intro m
    induction m with
    | zero =>
      intro i hi
      refine Ev.step 1 (fun k => F65c4_eq k _ _ _ _ _) ?_
      rw [List.drop_eq_nil_of_le (by omega)]
      simp only [lt_false (show c.length ≤ i by omega), Bool.false_eq_true, if_false]
      exact lw w.length 0 (by omega)
    | succ m ih =>
      intro i hi
      have hlt : i < c.length := by omega
      refine Ev.step 1 (fun k => F65c4_eq k _ _ _ _ _) ?_
      rw [drop_get hlt, List.all_cons]
      simp only [lt_true hlt, ge0, if_true, Int.toNat_natCast, get_some hlt, Option.bind_some]
      by_cases h : c[i].size ≤ 1200
      · simp only [decide_eq_false (show ¬ (c[i].size : Int) > 1200 by omega), decide_eq_true h, Bool.false_eq_true, if_false, Bool.true_and, wrap_succ (show i < 9223372036854775807 by omega)]
        exact ih (i + 1) (by omega)
      · simp only [decide_eq_true (show (c[i].size : Int) > 1200 by omega), decide_eq_false h, if_true, Bool.false_and]
        exact Ev.now _
  refine Ev.step 2 (fun k => F65_eq k _ _ _ _) ?_
  unfold diskOkL
  by_cases h1 : c.length = 42
  · have b1 : ((c.length : Int) != 42) = false := by rw [h1]; rfl
    by_cases h2 : w.length ≤ 100
    · by_cases h3 : -1 ≤ r
      · by_cases h4 : -1 ≤ l
        · simp only [b1, decide_eq_false (show ¬ (w.length : Int) > 100 by omega), decide_eq_false (show ¬ r < -1 by omega), decide_eq_false (show ¬ l < -1 by omega), Bool.false_eq_true, if_false, decide_eq_true h1, decide_eq_true h2, decide_eq_true h3, decide_eq_true h4, Bool.true_and]
          exact lc c.length 0 (by omega)
        · simp only [b1, decide_eq_false (show ¬ (w.length : Int) > 100 by omega), decide_eq_false (show ¬ r < -1 by omega), decide_eq_true (show l < -1 by omega), Bool.false_eq_true, if_false, if_true, decide_eq_false h4, Bool.false_and, Bool.and_false]
          exact Ev.now _
      · simp only [b1, decide_eq_false (show ¬ (w.length : Int) > 100 by omega), decide_eq_true (show r < -1 by omega), Bool.false_eq_true, if_false, if_true, decide_eq_false h3, Bool.false_and, Bool.and_false]
        exact Ev.now _
    · simp only [b1, decide_eq_true (show (w.length : Int) > 100 by omega), Bool.false_eq_true, if_false, if_true, decide_eq_false h2, Bool.false_and, Bool.and_false]
      exact Ev.now _
  · have b1 : ((c.length : Int) != 42) = true := bne_iff_ne.2 (by omega)
    simp only [b1, if_true, decide_eq_false h1, Bool.false_and]
    exact Ev.now _
theorem DiskOk_sp (c : List ByteArray) (w : List Wt) (r l : Int) (hc : c.length ≤ 1048576) (hw : w.length ≤ 1048576) : Ev (fun k => F29 k c w r l) ((diskOkL c w r l, ()), (((), (), (), (), ()), ())) := Ev.step 2 (fun k => F29_eq k _ _ _ _) (Ev.bind (l7Ok_ev c w r l hc hw) (Ev.now _))
theorem diskOk_of {c : List ByteArray} {w : List Wt} {r l : Int} (h : diskOkL c w r l = true) : c.length = 42 ∧ w.length ≤ 100 ∧ -1 ≤ r ∧ -1 ≤ l ∧ (∀ s ∈ c, s.size ≤ 1200) ∧ ∀ x ∈ w, 0 ≤ x.1 ∧ x.1 ≤ 41 ∧ x.2.1.size ≤ 1200 := by
  unfold diskOkL at h
  simp only [Bool.and_eq_true, decide_eq_true_eq, List.all_eq_true] at h
  refine ⟨h.1.1.1.1.1, h.1.1.1.1.2, h.1.1.1.2, h.1.1.2, h.1.2, fun x hx => ?_⟩
  have := h.2 x hx
  unfold waitOkL at this
  simp only [Bool.and_eq_true, decide_eq_true_eq] at this
  exact ⟨this.1.1, this.1.2, this.2⟩
end Go.Proofs.Ytldjfonpegffiaa.R
end

section
/-! Rf: a disk after a crash. -/
set_option autoImplicit false
set_option linter.unusedSimpArgs false
set_option linter.unusedVariables false
namespace Go.Proofs.Ytldjfonpegffiaa.R
open Go.Rf
/-! ### a mask's bits -/
def bitN (m i : Nat) : Bool := (m / 2 ^ (i % 60)) % 2 == 1
theorem mod60 (i : Nat) : ((i : Int).tmod 60) = ((i % 60 : Nat) : Int) := rfl
theorem bit_im {m : Nat} (hm : m < 2 ^ 62) (i : Nat) :
    ((IntKind.i64.wrap (((BitVec.ofInt IntKind.i64.bits ((m : Int).fdiv (2 ^ min ((i : Int).tmod (60 : Int)).toNat IntKind.i64.bits)) &&& BitVec.ofInt IntKind.i64.bits (1 : Int)).toNat : Int))) == (1 : Int)) = bitN m i := by
  have hj : min (i % 60) IntKind.i64.bits = i % 60 := Nat.min_eq_left (by show i % 60 ≤ 64; omega)
  have hq : (m : Int).fdiv (2 ^ (i % 60)) = ((m / 2 ^ (i % 60) : Nat) : Int) := by
    rw [show ((2 : Int) ^ (i % 60)) = ((2 ^ (i % 60) : Nat) : Int) by push_cast; rfl, Int.fdiv_eq_ediv_of_nonneg _ (Int.natCast_nonneg _)]
    rfl
  rw [mod60, Int.toNat_natCast, hj, hq]
  have hle : m / 2 ^ (i % 60) ≤ m := Nat.div_le_self _ _
  generalize hQ : m / 2 ^ (i % 60) = q at hle
  have e : ((BitVec.ofInt IntKind.i64.bits (q : Int) &&& BitVec.ofInt IntKind.i64.bits (1 : Int)).toNat) = q % 2 := by
    rw [BitVec.toNat_and, BitVec.toNat_ofInt, BitVec.toNat_ofInt]
    show (((q : Int) % ((2 ^ 64 : Nat) : Int)).toNat) &&& (((1 : Int) % ((2 ^ 64 : Nat) : Int)).toNat) = q % 2
    have h1 : (((q : Int) % ((2 ^ 64 : Nat) : Int)).toNat) = q := by
      have h64 : (2 : Nat) ^ 64 = 18446744073709551616 := by decide
      have h62 : (2 : Nat) ^ 62 = 4611686018427387904 := by decide
      rw [h64]
      omega
    have h2 : (((1 : Int) % ((2 ^ 64 : Nat) : Int)).toNat) = 1 := by decide
    rw [h1, h2]
    exact Nat.and_one_is_mod q
  rw [e, wrap64 (by omega) (by omega)]
  unfold bitN
  rw [hQ]
  rcases Nat.mod_two_eq_zero_or_one q with h | h <;> rw [h] <;> rfl
theorem bit_sp {m : Nat} (hm : m < 2 ^ 62) (i : Nat) : Ev (fun k => F85 k (m : Int) (i : Int)) ((bitN m i, ()), ((), (), ())) := by
  have h62 : (2 : Nat) ^ 62 = 4611686018427387904 := by decide
  have main : ∀ (j x : Nat), j ≤ 60 → x ≤ m → Ev (fun k => F85c2 k (x : Int) (j : Int)) ((((x / 2 ^ j) % 2 == 1), ()), ((), (), ())) := by
    intro j
    induction j with
    | zero =>
      intro x _ hx
      refine Ev.step 1 (fun k => F85c2_eq k _ _) ?_
      simp only [show decide (((0 : Nat) : Int) > 0) = false from rfl, Bool.false_eq_true, if_false, Nat.pow_zero, Nat.div_one]
      rw [show ((((x : Int).tmod 2) == 1)) = (x % 2 == 1) by
        rw [show (x : Int).tmod 2 = ((x % 2 : Nat) : Int) from rfl]
        rcases Nat.mod_two_eq_zero_or_one x with h | h <;> rw [h] <;> rfl]
      exact Ev.now _
    | succ j ih =>
      intro x hj hx
      refine Ev.step 1 (fun k => F85c2_eq k _ _) ?_
      have e1 : IntKind.i64.wrap ((x : Int).tdiv 2) = ((x / 2 : Nat) : Int) := by
        rw [show (x : Int).tdiv 2 = ((x / 2 : Nat) : Int) from rfl, wrap64 (by omega) (by omega)]
      have e2 : IntKind.i64.wrap (((j + 1 : Nat) : Int) - 1) = (j : Int) := by rw [wrap64 (by omega) (by omega)]; omega
      simp only [decide_eq_true (show ((j + 1 : Nat) : Int) > 0 by omega), if_true, e1, e2]
      rw [show x / 2 ^ (j + 1) = (x / 2) / 2 ^ j by rw [Nat.div_div_eq_div_mul, Nat.pow_succ, Nat.mul_comm]]
      exact ih (x / 2) (by omega) (by omega)
  refine Ev.step 2 (fun k => F85_eq k _ _) ?_
  rw [mod60]
  exact main (i % 60) m (by omega) (Nat.le_refl _)
/-! ### a text that is torn -/
def jT (n : Nat) (b : Int) : Int := if (if (n : Int) - 1 < b then (n : Int) - 1 else b) > 0 then (if (n : Int) - 1 < b then (n : Int) - 1 else b) else 0
theorem jT_in (n : Nat) (b : Int) : 0 ≤ jT n b ∧ jT n b ≤ n := by
  unfold jT
  split
  · split at * <;> omega
  · omega
def tornL (old new : ByteArray) (b : Int) : ByteArray := if (old.size : Int) > jT new.size b then new.extract 0 (jT new.size b).toNat ++ old.extract (jT new.size b).toNat old.size else new.extract 0 (jT new.size b).toNat
theorem torn_size {old new : ByteArray} {b : Int} (h1 : old.size ≤ 1200) (h2 : new.size ≤ 1200) : (tornL old new b).size ≤ 1200 := by
  have := jT_in new.size b
  unfold tornL
  split
  · rw [ByteArray.size_append, ByteArray.size_extract, ByteArray.size_extract]; omega
  · rw [ByteArray.size_extract]; omega
theorem torn_im {old new : ByteArray} (b : Int) (h1 : old.size ≤ 1200) (h2 : new.size ≤ 1200) : Ev (fun k => F81 k old new b) ((tornL old new b, ()), ((), (), (), ())) := by
  have hj := jT_in new.size b
  have hw : IntKind.i64.wrap ((new.size : Int) - 1) = (new.size : Int) - 1 := wrap64 (by omega) (by omega)
  refine Ev.step 2 (fun k => F81_eq k _ _ _) ?_
  rw [hw]
  change Ev (fun k => if decide ((old.size : Int) > jT new.size b) = true then if (decide (0 ≤ jT new.size b) && decide (jT new.size b ≤ (new.size : Int))) = true then if (decide (0 ≤ jT new.size b) && decide (jT new.size b ≤ (old.size : Int))) = true then if Nat.ble ((new.extract 0 (jT new.size b).toNat).size + (old.extract (jT new.size b).toNat old.size).size) 9223372036854775807 = true then some (((new.extract 0 (jT new.size b).toNat ++ old.extract (jT new.size b).toNat old.size), ()), ((), (), (), ())) else none else none else none else if (decide (0 ≤ jT new.size b) && decide (jT new.size b ≤ (new.size : Int))) = true then some ((new.extract 0 (jT new.size b).toNat, ()), ((), (), (), ())) else none) _
  unfold tornL
  have e1 : (decide (0 ≤ jT new.size b) && decide (jT new.size b ≤ (new.size : Int))) = true := by simp; omega
  by_cases h : (old.size : Int) > jT new.size b
  · have e2 : (decide (0 ≤ jT new.size b) && decide (jT new.size b ≤ (old.size : Int))) = true := by simp; omega
    have e3 : Nat.ble ((new.extract 0 (jT new.size b).toNat).size + (old.extract (jT new.size b).toNat old.size).size) 9223372036854775807 = true := Nat.ble_eq_true_of_le (by rw [ByteArray.size_extract, ByteArray.size_extract]; omega)
    simp only [decide_eq_true h, e1, e2, e3, if_true, if_pos h]
    exact Ev.now _
  · simp only [decide_eq_false h, e1, Bool.false_eq_true, if_false, if_true, if_neg h]
    exact Ev.now _
theorem torn_sp {old new : ByteArray} (b : Int) (h1 : old.size ≤ 1200) (h2 : new.size ≤ 1200) : Ev (fun k => F86 k new old b) ((tornL old new b, ()), ((), (), (), ())) := by
  have hj := jT_in new.size b
  have hw : IntKind.i64.wrap ((new.size : Int) - 1) = (new.size : Int) - 1 := wrap64 (by omega) (by omega)
  have last : Ev (fun k => F86c5 k new old (jT new.size b)) ((tornL old new b, ()), ((), (), (), ())) := by
    refine Ev.step 1 (fun k => F86c5_eq k _ _ _) ?_
    unfold tornL
    have e1 : (decide (0 ≤ jT new.size b) && decide (jT new.size b ≤ (new.size : Int))) = true := by simp; omega
    by_cases h : (old.size : Int) > jT new.size b
    · have e2 : (decide (0 ≤ jT new.size b) && decide (jT new.size b ≤ (old.size : Int))) = true := by simp; omega
      have e3 : Nat.ble ((new.extract 0 (jT new.size b).toNat).size + (old.extract (jT new.size b).toNat old.size).size) 9223372036854775807 = true := Nat.ble_eq_true_of_le (by rw [ByteArray.size_extract, ByteArray.size_extract]; omega)
      simp only [decide_eq_false (show ¬ jT new.size b ≥ (old.size : Int) by omega), Bool.false_eq_true, if_false, e1, e2, e3, if_true, if_pos h]
      exact Ev.now _
    · simp only [decide_eq_true (show jT new.size b ≥ (old.size : Int) by omega), e1, if_true, if_neg h]
      exact Ev.now _
  refine Ev.step 2 (fun k => F86_eq k _ _ _) ?_
  rw [hw]
  by_cases c : b > (new.size : Int) - 1
  · simp only [decide_eq_true c, if_true]
    refine Ev.step 1 (fun k => F86c3_eq k _ _ _) ?_
    by_cases c2 : (new.size : Int) - 1 < 0
    · simp only [decide_eq_true c2, if_true]
      have : jT new.size b = 0 := by unfold jT; rw [if_pos (show (new.size : Int) - 1 < b from c), if_neg (by omega)]
      rw [this] at last
      exact last
    · simp only [decide_eq_false c2, Bool.false_eq_true, if_false]
      have : jT new.size b = (new.size : Int) - 1 := by
        unfold jT
        rw [if_pos (show (new.size : Int) - 1 < b from c)]
        split <;> omega
      rw [this] at last
      exact last
  · simp only [decide_eq_false c, Bool.false_eq_true, if_false]
    refine Ev.step 1 (fun k => F86c3_eq k _ _ _) ?_
    by_cases c2 : b < 0
    · simp only [decide_eq_true c2, if_true]
      have : jT new.size b = 0 := by
        unfold jT
        rw [if_neg (show ¬ (new.size : Int) - 1 < b from c), if_neg (by omega)]
      rw [this] at last
      exact last
    · simp only [decide_eq_false c2, Bool.false_eq_true, if_false]
      have : jT new.size b = b := by
        unfold jT
        by_cases h : (new.size : Int) - 1 < b
        · omega
        · rw [if_neg h]
          split <;> omega
      rw [this] at last
      exact last
/-! ### what is left -/
def stepL (m : Nat) (tear b : Int) (i : Nat) (w : Wt) (c : List ByteArray) : List ByteArray :=
  if bitN m i = true then c.set w.1.toNat w.2.1 else if (i : Int) = tear then c.set w.1.toNat (tornL (c.getD w.1.toNat ByteArray.empty) w.2.1 b) else c
def crashL (m : Nat) (tear b : Int) : Nat → List Wt → List ByteArray → List ByteArray
  | _, [], c => c
  | i, w :: ws, c => crashL m tear b (i + 1) ws (stepL m tear b i w c)
def sz12 (c : List ByteArray) : Prop := c.length = 42 ∧ ∀ s ∈ c, s.size ≤ 1200
def wt12 (w : Wt) : Prop := 0 ≤ w.1 ∧ w.1 ≤ 41 ∧ w.2.1.size ≤ 1200
theorem sz12_set {c : List ByteArray} (h : sz12 c) {n : Nat} {s : ByteArray} (hs : s.size ≤ 1200) : sz12 (c.set n s) := by
  refine ⟨by rw [List.length_set]; exact h.1, fun x hx => ?_⟩
  rcases List.mem_or_eq_of_mem_set hx with hx | rfl
  · exact h.2 x hx
  · exact hs
theorem sz12_get {c : List ByteArray} (h : sz12 c) {n : Nat} (hn : n < 42) : c[n]? = some (c.getD n ByteArray.empty) ∧ (c.getD n ByteArray.empty).size ≤ 1200 := by
  have hl : n < c.length := by rw [h.1]; exact hn
  have e : c[n]? = some c[n] := List.getElem?_eq_getElem hl
  rw [List.getD_eq_getElem?_getD, e]
  exact ⟨rfl, h.2 _ (List.getElem_mem hl)⟩
theorem stepL_sz {m : Nat} {tear b : Int} {i : Nat} {w : Wt} {c : List ByteArray} (hc : sz12 c) (hw : wt12 w) : sz12 (stepL m tear b i w c) := by
  unfold stepL
  split
  · exact sz12_set hc hw.2.2
  · split
    · exact sz12_set hc (torn_size (sz12_get hc (by have := hw.1; have := hw.2.1; omega)).2 hw.2.2)
    · exact hc
theorem crashL_sz {m : Nat} {tear b : Int} : ∀ {ws : List Wt} {i : Nat} {c : List ByteArray}, sz12 c → (∀ w ∈ ws, wt12 w) → sz12 (crashL m tear b i ws c)
  | [], _, _, h, _ => h
  | w :: ws, i, c, h, hw => crashL_sz (ws := ws) (stepL_sz h (hw w List.mem_cons_self)) (fun x hx => hw x (List.mem_cons_of_mem _ hx))
theorem crash_im {m : Nat} (hm : m < 2 ^ 62) {tear b : Int} {ws : List Wt} (hws : ∀ w ∈ ws, wt12 w) (hl : ws.length ≤ 100) : ∀ (n i : Nat) (c : List ByteArray), i + n = ws.length → sz12 c →
    Ev (fun k => F35c5 k (m : Int) tear b [] [] 0 0 c [] (-1) (-1) ws (ws.length : Int) (i : Int)) (((crashL m tear b i (ws.drop i) c, [], -1, -1, ()), ()), (((), (), (), (), ()), (), (), (), ())) := by
  intro n
  induction n with
  | zero =>
    intro i c hi hc
    refine Ev.step 1 (fun k => F35c5_eq k _ _ _ _ _ _ _ _ _ _ _ _ _ _) ?_
    rw [List.drop_eq_nil_of_le (by omega)]
    simp only [lt_false (show ws.length ≤ i by omega), Bool.false_eq_true, if_false]
    exact Ev.now _
  | succ n ih =>
    intro i c hi hc
    have hlt : i < ws.length := by omega
    have hw := hws _ (List.getElem_mem hlt)
    have hat : ws[i].1.toNat < 42 := by have := hw.1; have := hw.2.1; omega
    obtain ⟨hg, hgs⟩ := sz12_get hc hat
    refine Ev.step 1 (fun k => F35c5_eq k _ _ _ _ _ _ _ _ _ _ _ _ _ _) ?_
    rw [drop_get hlt, crashL]
    have next : ∀ {c' : List ByteArray}, sz12 c' → Ev (fun k => F35c11 k (m : Int) tear b [] [] 0 0 c' [] (-1) (-1) ws (ws.length : Int) (i : Int)) (((crashL m tear b (i + 1) (ws.drop (i + 1)) c', [], -1, -1, ()), ()), (((), (), (), (), ()), (), (), (), ())) := fun h => by
      refine Ev.step 1 (fun k => F35c11_eq k _ _ _ _ _ _ _ _ _ _ _ _ _ _) ?_
      rw [wrap_succ (show i < 9223372036854775807 by omega)]
      exact ih (i + 1) _ (by omega) h
    have hin : (decide (0 ≤ ws[i].1) && decide (ws[i].1 < (c.length : Int))) = true := by have := hw.1; have := hw.2.1; rw [hc.1]; simp; omega
    have hb := bit_im hm i
    have h60 : decide (0 ≤ ((i : Int).tmod 60)) = true := decide_eq_true (by rw [mod60]; omega)
    simp only [lt_true hlt, ge0, if_true, Int.toNat_natCast, get_some hlt, Option.bind_some, h60, hb]
    unfold stepL
    by_cases hbit : bitN m i = true
    · simp only [hbit, hin, hg, if_true, Option.bind_some]
      exact next (sz12_set hc hw.2.2)
    · simp only [hbit, Bool.false_eq_true, if_false]
      by_cases ht : (i : Int) = tear
      · have hb2 : ((i : Int) == tear) = true := beq_iff_eq.2 ht
        simp only [hb2, if_pos ht, if_true, hin, hg, Option.bind_some]
        refine Ev.bind (torn_im b hgs hw.2.2) ?_
        exact next (sz12_set hc (torn_size hgs hw.2.2))
      · have hb2 : ((i : Int) == tear) = false := beq_eq_false_iff_ne.2 ht
        simp only [hb2, if_neg ht, Bool.false_eq_true, if_false]
        exact next hc
end Go.Proofs.Ytldjfonpegffiaa.R
end

section
/-! Rf: a disk after a crash: both ways. -/
set_option autoImplicit false
set_option linter.unusedSimpArgs false
set_option linter.unusedVariables false
namespace Go.Proofs.Ytldjfonpegffiaa.R
open Go.Rf
theorem crash_sp {m : Nat} (hm : m < 2 ^ 62) {tear b : Int} {cc : List ByteArray} {r0 l0 r1 l1 : Int} {w1 : List Wt} {ws : List Wt} (hws : ∀ w ∈ ws, wt12 w) (hl : ws.length ≤ 100) : ∀ (n i : Nat) (c : List ByteArray), i + n = ws.length → sz12 c →
    Ev (fun k => F37c5 k (m : Int) tear b cc ws r0 l0 [] [] 0 0 c w1 r1 l1 (i : Int)) (((crashL m tear b i (ws.drop i) c, [], -1, -1, ()), ()), (((), (), (), (), ()), (), (), (), ())) := by
  intro n
  induction n with
  | zero =>
    intro i c hi hc
    refine Ev.step 1 (fun k => F37c5_eq k _ _ _ _ _ _ _ _ _ _ _ _ _ _ _ _) ?_
    rw [List.drop_eq_nil_of_le (by omega)]
    simp only [lt_false (show ws.length ≤ i by omega), Bool.false_eq_true, if_false]
    exact Ev.now _
  | succ n ih =>
    intro i c hi hc
    have hlt : i < ws.length := by omega
    have hw := hws _ (List.getElem_mem hlt)
    have hat : ws[i].1.toNat < 42 := by have := hw.1; have := hw.2.1; omega
    obtain ⟨hg, hgs⟩ := sz12_get hc hat
    refine Ev.step 1 (fun k => F37c5_eq k _ _ _ _ _ _ _ _ _ _ _ _ _ _ _ _) ?_
    rw [drop_get hlt, crashL]
    have next : ∀ {c' : List ByteArray}, sz12 c' → Ev (fun k => F37c6 k (m : Int) tear b cc ws r0 l0 [] [] 0 0 c' w1 r1 l1 (i : Int)) (((crashL m tear b (i + 1) (ws.drop (i + 1)) c', [], -1, -1, ()), ()), (((), (), (), (), ()), (), (), (), ())) := fun h => by
      refine Ev.step 1 (fun k => F37c6_eq k _ _ _ _ _ _ _ _ _ _ _ _ _ _ _ _) ?_
      rw [wrap_succ (show i < 9223372036854775807 by omega)]
      exact ih (i + 1) _ (by omega) h
    have hin : (decide (0 ≤ ws[i].1) && decide (ws[i].1 < (c.length : Int))) = true := by have := hw.1; have := hw.2.1; rw [hc.1]; simp; omega
    simp only [lt_true hlt, ge0, if_true, Int.toNat_natCast, get_some hlt, Option.bind_some]
    refine Ev.bind (bit_sp hm i) ?_
    unfold stepL
    by_cases hbit : bitN m i = true
    · simp only [hbit, hin, hg, if_true, Option.bind_some]
      exact next (sz12_set hc hw.2.2)
    · simp only [hbit, Bool.false_eq_true, if_false]
      by_cases ht : (i : Int) = tear
      · have hb2 : ((i : Int) == tear) = true := beq_iff_eq.2 ht
        simp only [hb2, if_pos ht, if_true, hin, hg, Option.bind_some]
        refine Ev.bind (torn_sp b hgs hw.2.2) ?_
        exact next (sz12_set hc (torn_size hgs hw.2.2))
      · have hb2 : ((i : Int) == tear) = false := beq_eq_false_iff_ne.2 ht
        simp only [hb2, if_neg ht, Bool.false_eq_true, if_false]
        exact next hc
theorem cloneT_ev (l : List ByteArray) (h : l.length ≤ 1000000) : Ev (fun k => F80 k l) ((l, ()), ((), ())) := by
  have h2 : Ev (fun k => F111 k l) ((l, ()), ((), ())) := by
    refine Ev.step 2 (fun k => F111_eq k l) ?_
    have hc : decide (([] : List ByteArray).length + l.length ≤ 8796093022208) = true := decide_eq_true (by simp; omega)
    simp only [hc, if_true, List.nil_append]
    cases l with
    | nil =>
      rw [bothK_same]
      exact Ev.now _
    | cons x l =>
      have : emptyL (x :: l) = false := rfl
      rw [this, bothK_false]
      exact Ev.now _
  have h3 : Ev (fun k => F110 k l) ((l, ()), ((), ())) := by
    refine Ev.step 2 (fun k => F110_eq k l) ?_
    simp only [beq_self_eq_true, Bool.and_self, if_true]
    exact Ev.now _
  exact Ev.step 2 (fun k => F80_eq k l) (Ev.bind h2 (Ev.bind h3 (Ev.now _)))
theorem l7Copy_ev (c : List ByteArray) (w : List Wt) (r l : Int) (hc : c.length ≤ 1048576) (hw : w.length ≤ 1048576) : Ev (fun k => F84 k c w r l) (((c, w, r, l, ()), ()), (((), (), (), (), ()), ())) := by
  refine Ev.step 2 (fun k => F84_eq k _ _ _ _) ?_
  simp only [decide_eq_true (show ([] : List ByteArray).length + c.length ≤ 8796093022208 by simp; omega), decide_eq_true (show ([] : List Wt).length + w.length ≤ 5864062014805 by simp; omega), if_true, List.nil_append]
  exact Ev.now _
theorem ok_sz {c : List ByteArray} {w : List Wt} {r l : Int} (h : diskOkL c w r l = true) : sz12 c ∧ (∀ x ∈ w, wt12 x) ∧ w.length ≤ 100 := by
  obtain ⟨h1, h2, _, _, h3, h4⟩ := diskOk_of h
  exact ⟨⟨h1, h3⟩, h4, h2⟩
def crashO (c : List ByteArray) (w : List Wt) (r l m tear b : Int) : List ByteArray × List Wt × Int × Int × Unit := if diskOkL c w r l = true ∧ 0 ≤ m then (crashL m.toNat tear b 0 w c, [], -1, -1, ()) else ([], [], 0, 0, ())
theorem crashO_ok {c : List ByteArray} {w : List Wt} {r l m tear b : Int} (h : diskOkL c w r l = true) (h2 : 0 ≤ m) : crashO c w r l m tear b = (crashL m.toNat tear b 0 w c, [], -1, -1, ()) := if_pos ⟨h, h2⟩
theorem crashO_bad {c : List ByteArray} {w : List Wt} {r l m tear b : Int} (h : ¬ (diskOkL c w r l = true ∧ 0 ≤ m)) : crashO c w r l m tear b = ([], [], 0, 0, ()) := if_neg h
theorem DiskCrash_im (c : List ByteArray) (w : List Wt) (r l m tear b : Int) (hc : c.length ≤ 1048576) (hw : w.length ≤ 1048576) (hm : m < 2 ^ 62) : Ev (fun k => F35 k c w r l m tear b) ((crashO c w r l m tear b, ()), (((), (), (), (), ()), (), (), (), ())) := by
  refine Ev.step 2 (fun k => F35_eq k _ _ _ _ _ _ _) (Ev.bind (DiskOk_im c w r l hc hw) ?_)
  by_cases h : diskOkL c w r l = true
  · by_cases h2 : 0 ≤ m
    · obtain ⟨s1, s2, s3⟩ := ok_sz h
      rw [crashO_ok h h2]
      simp only [h, decide_eq_false (show ¬ m < 0 by omega), Bool.not_true, Bool.false_eq_true, if_false]
      refine Ev.bind (cloneT_ev c (by rw [s1.1]; omega)) ?_
      have := crash_im (m := m.toNat) (by omega) (tear := tear) (b := b) s2 s3 w.length 0 c (by omega) s1
      rw [Int.toNat_of_nonneg h2] at this
      exact this
    · rw [crashO_bad (fun h => h2 h.2)]
      simp only [h, decide_eq_true (show m < 0 by omega), Bool.not_true, Bool.false_eq_true, if_false, if_true]
      exact Ev.now _
  · rw [crashO_bad (fun g => h g.1)]
    have h : diskOkL c w r l = false := Bool.eq_false_iff.2 h
    simp only [h, Bool.not_false, if_true]
    exact Ev.now _
theorem DiskCrash_sp (c : List ByteArray) (w : List Wt) (r l m tear b : Int) (hc : c.length ≤ 1048576) (hw : w.length ≤ 1048576) (hm : m < 2 ^ 62) : Ev (fun k => F37 k c w r l m tear b) ((crashO c w r l m tear b, ()), (((), (), (), (), ()), (), (), (), ())) := by
  refine Ev.step 2 (fun k => F37_eq k _ _ _ _ _ _ _) (Ev.bind (l7Ok_ev c w r l hc hw) ?_)
  by_cases h : diskOkL c w r l = true
  · by_cases h2 : 0 ≤ m
    · obtain ⟨s1, s2, s3⟩ := ok_sz h
      rw [crashO_ok h h2]
      simp only [h, decide_eq_false (show ¬ m < 0 by omega), Bool.not_true, Bool.false_eq_true, if_false]
      refine Ev.bind (l7Copy_ev c w r l hc hw) ?_
      have := crash_sp (m := m.toNat) (by omega) (tear := tear) (b := b) (cc := c) (r0 := r) (l0 := l) (r1 := r) (l1 := l) (w1 := w) s2 s3 w.length 0 c (by omega) s1
      rw [Int.toNat_of_nonneg h2] at this
      exact this
    · rw [crashO_bad (fun h => h2 h.2)]
      simp only [h, decide_eq_true (show m < 0 by omega), Bool.not_true, Bool.false_eq_true, if_false, if_true]
      exact Ev.now _
  · rw [crashO_bad (fun g => h g.1)]
    have h : diskOkL c w r l = false := Bool.eq_false_iff.2 h
    simp only [h, Bool.not_false, if_true]
    exact Ev.now _
/-! ### alike -/
theorem bs_refl (s : ByteArray) : (s == s) = true := by
  show (s.data == s.data) = true
  exact beq_self_eq_true _
theorem jtTexts_ev (c : List ByteArray) (hc : c.length ≤ 1048576) : Ev (fun k => F82 k c c) ((true, ()), ((), (), ())) := by
  have main : ∀ (n i : Nat), i + n = c.length → Ev (fun k => F82c4 k c c (i : Int)) ((true, ()), ((), (), ())) := by
    intro n
    induction n with
    | zero =>
      intro i hi
      refine Ev.step 1 (fun k => F82c4_eq k _ _ _) ?_
      simp only [lt_false (show c.length ≤ i by omega), Bool.false_eq_true, if_false]
      exact Ev.now _
    | succ n ih =>
      intro i hi
      have hlt : i < c.length := by omega
      refine Ev.step 1 (fun k => F82c4_eq k _ _ _) ?_
      simp only [lt_true hlt, ge0, if_true, Int.toNat_natCast, get_some hlt, Option.bind_some, beq_self_eq_true, Bool.not_true, Bool.false_eq_true, if_false, wrap_succ (show i < 9223372036854775807 by omega)]
      exact ih (i + 1) (by omega)
  refine Ev.step 2 (fun k => F82_eq k _ _) ?_
  simp only [bne_self_eq_false, Bool.false_eq_true, if_false]
  exact main c.length 0 (by omega)
theorem jtWaits_ev (w : List Wt) (hw : w.length ≤ 1048576) : Ev (fun k => F83 k w w) ((true, ()), ((), (), ())) := by
  have main : ∀ (n i : Nat), i + n = w.length → Ev (fun k => F83c4 k w w (i : Int)) ((true, ()), ((), (), ())) := by
    intro n
    induction n with
    | zero =>
      intro i hi
      refine Ev.step 1 (fun k => F83c4_eq k _ _ _) ?_
      simp only [lt_false (show w.length ≤ i by omega), Bool.false_eq_true, if_false]
      exact Ev.now _
    | succ n ih =>
      intro i hi
      have hlt : i < w.length := by omega
      refine Ev.step 1 (fun k => F83c4_eq k _ _ _) ?_
      simp only [lt_true hlt, ge0, if_true, Int.toNat_natCast, get_some hlt, Option.bind_some, beq_self_eq_true, bs_refl, Bool.and_self, Bool.not_true, Bool.false_eq_true, if_false, wrap_succ (show i < 9223372036854775807 by omega)]
      exact ih (i + 1) (by omega)
  refine Ev.step 2 (fun k => F83_eq k _ _) ?_
  simp only [bne_self_eq_false, Bool.false_eq_true, if_false]
  exact main w.length 0 (by omega)
theorem jtDisk_ev (c : List ByteArray) (w : List Wt) (r l : Int) (hc : c.length ≤ 1048576) (hw : w.length ≤ 1048576) : Ev (fun k => F36 k c w r l c w r l) ((true, ()), (((), (), (), (), ()), ((), (), (), (), ()), ())) := by
  refine Ev.step 2 (fun k => F36_eq k _ _ _ _ _ _ _ _) (Ev.bind (jtTexts_ev c hc) ?_)
  simp only [if_true, beq_self_eq_true]
  refine Ev.bind (jtWaits_ev w hw) ?_
  simp only [if_true]
  exact Ev.now _
end Go.Proofs.Ytldjfonpegffiaa.R
end

section
/-! Rf: a disk after a crash: each cell has an old or a written text. -/
set_option autoImplicit false
set_option linter.unusedSimpArgs false
set_option linter.unusedVariables false
namespace Go.Proofs.Ytldjfonpegffiaa.R
open Go.Rf
def cellD (c : List ByteArray) (n : Nat) : ByteArray := c.getD n ByteArray.empty
theorem cell_set {c : List ByteArray} {n k : Nat} {s : ByteArray} (hn : n < c.length) : cellD (c.set k s) n = if k = n then s else cellD c n := by
  unfold cellD
  rw [List.getD_eq_getElem?_getD, List.getD_eq_getElem?_getD, List.getElem?_set]
  by_cases h : k = n
  · rw [if_pos h, if_pos h, if_pos (by omega)]; rfl
  · rw [if_neg h, if_neg h]
theorem cell_get {c : List ByteArray} {n : Nat} (hn : n < c.length) : c[n]? = some (cellD c n) := by
  unfold cellD
  rw [List.getD_eq_getElem?_getD, List.getElem?_eq_getElem hn]
  rfl
theorem bit0 (i : Nat) : bitN 0 i = false := by
  unfold bitN
  rw [Nat.zero_div]
  rfl
theorem bits1 (i : Nat) : bitN 1152921504606846975 i = true := by
  have : ∀ j : Fin 60, ((1152921504606846975 / 2 ^ j.val) % 2 == 1) = true := by decide +kernel
  exact this ⟨i % 60, Nat.mod_lt _ (by decide)⟩
theorem crash_none {b : Int} : ∀ (ws : List Wt) (i : Nat) (c : List ByteArray), crashL 0 (-1) b i ws c = c
  | [], _, _ => rfl
  | w :: ws, i, c => by
    rw [crashL]
    have : stepL 0 (-1) b i w c = c := by
      unfold stepL
      rw [bit0, if_neg (by decide), if_neg (by omega)]
    rw [this]
    exact crash_none ws (i + 1) c
theorem read_cons (w : Wt) (ws : List Wt) (c : List ByteArray) (n : Nat) (hw : 0 ≤ w.1) (hn : n < c.length) : readL (w :: ws) c (n : Int) = readL ws (c.set w.1.toNat w.2.1) (n : Int) := by
  unfold readL
  rw [List.reverse_cons, List.find?_append]
  cases h : ws.reverse.find? (fun x => x.1 == (n : Int)) with
  | some x => rfl
  | none =>
    rw [Option.none_or]
    show _ = cellD (c.set w.1.toNat w.2.1) n
    rw [cell_set hn, List.find?_cons]
    by_cases e : w.1 = (n : Int)
    · rw [if_pos (by omega), beq_iff_eq.2 e]
    · rw [if_neg (by omega), beq_eq_false_iff_ne.2 e]
      rfl
theorem crash_all {b : Int} {n : Nat} : ∀ (ws : List Wt) (i : Nat) (c : List ByteArray), (∀ w ∈ ws, 0 ≤ w.1) → n < c.length → cellD (crashL 1152921504606846975 (-1) b i ws c) n = readL ws c (n : Int)
  | [], _, _, _, _ => rfl
  | w :: ws, i, c, hw, hn => by
    rw [crashL, read_cons w ws c n (hw w List.mem_cons_self) hn]
    have : stepL 1152921504606846975 (-1) b i w c = c.set w.1.toNat w.2.1 := by
      unfold stepL
      rw [bits1, if_pos rfl]
    rw [this]
    exact crash_all ws (i + 1) _ (fun x hx => hw x (List.mem_cons_of_mem _ hx)) (by rw [List.length_set]; exact hn)
theorem step_len {m : Nat} {tear b : Int} {i : Nat} {w : Wt} {c : List ByteArray} : (stepL m tear b i w c).length = c.length := by
  unfold stepL
  split
  · rw [List.length_set]
  · split
    · rw [List.length_set]
    · rfl
theorem crash_old {m : Nat} {tear b : Int} {n : Nat} : ∀ (ws : List Wt) (i : Nat) (c : List ByteArray), (∀ w ∈ ws, 0 ≤ w.1) → n < c.length →
    cellD (crashL m tear b i ws c) n = cellD c n ∨ ∃ (j : Nat) (w : Wt), ws[j]? = some w ∧ w.1 = (n : Int) ∧ (w.2.1 = cellD (crashL m tear b i ws c) n ∨ ((i + j : Nat) : Int) = tear)
  | [], _, _, _, _ => Or.inl rfl
  | w :: ws, i, c, hw, hn => by
    rw [crashL]
    have h0 := hw w List.mem_cons_self
    rcases crash_old (m := m) (tear := tear) (b := b) (n := n) ws (i + 1) (stepL m tear b i w c) (fun x hx => hw x (List.mem_cons_of_mem _ hx)) (by rw [step_len]; exact hn) with h | ⟨j, x, h1, h2, h3⟩
    · rw [h]
      unfold stepL
      split
      · rw [cell_set hn]
        split
        · exact Or.inr ⟨0, w, rfl, by omega, Or.inl rfl⟩
        · exact Or.inl rfl
      · split
        · rename_i ht
          rw [cell_set hn]
          split
          · exact Or.inr ⟨0, w, rfl, by omega, Or.inr ht⟩
          · exact Or.inl rfl
        · exact Or.inl rfl
    · refine Or.inr ⟨j + 1, x, h1, h2, ?_⟩
      rw [show i + (j + 1) = i + 1 + j by omega]
      exact h3
theorem crash_ok {m : Nat} {tear b : Int} {c : List ByteArray} {w : List Wt} (h : sz12 c) (hw : ∀ x ∈ w, wt12 x) : diskOkL (crashL m tear b 0 w c) [] (-1) (-1) = true := by
  have := crashL_sz (m := m) (tear := tear) (b := b) (i := 0) h hw
  unfold diskOkL
  simp only [Bool.and_eq_true, decide_eq_true_eq, List.all_eq_true]
  exact ⟨⟨⟨⟨⟨this.1, by decide⟩, by decide⟩, by decide⟩, fun s hs => this.2 s hs⟩, fun x hx => by cases hx⟩
end Go.Proofs.Ytldjfonpegffiaa.R
end

section
/-! Rf, decimals: compared; the law's helpers. -/
set_option autoImplicit false
namespace Go.Proofs.Ytldjfonpegffiaa.R
open Go.Rf
/-- a decimal in order: its number -/
def num (l : List Int) : Nat := (VI l).toNat
theorem num_spec {l : List Int} (h : InR l) : VI l = (num l : Int) := by
  have := VI_nonneg h
  unfold num
  omega
theorem digs_num {l : List Int} (h : InR l) (t : Trim l) : digs (num l) = l := digs_VI h t
theorem num_pos {neg : Bool} {l : List Int} (h : bOk neg l = true) (hn : neg = true) : 0 < num l := by
  obtain ⟨_, hr, ht, h0⟩ := bOk_of h
  have := VI_pos hr ht (fun e => by have := h0 e; rw [hn] at this; cases this)
  have := num_spec hr
  omega
theorem num_lt {l : List Int} (h : InR l) (hl : l.length ≤ 16) : num l < 10000 ^ 16 := by
  have h1 : VI l < ((10000 ^ l.length : Nat) : Int) := by
    rw [Int.natCast_pow]
    exact VI_lt h
  have h2 := num_spec h
  have h3 : (10000 : Nat) ^ l.length ≤ 10000 ^ 16 := Nat.pow_le_pow_right (by omega) hl
  exact Nat.lt_of_lt_of_le (by omega) h3
theorem at_len {V m : Nat} (hV : V < 10000 ^ 16) (hm : m ≤ 24) : (digs (V * 10 ^ m)).length ≤ 40 := by
  refine digs_len_le ?_
  have h1 : 10 ^ m ≤ 10 ^ 24 := Nat.pow_le_pow_right (by omega) hm
  have h2 : V * 10 ^ m ≤ V * 10 ^ 24 := Nat.mul_le_mul_left V h1
  have h3 : V * 10 ^ 24 < 10000 ^ 16 * 10 ^ 24 := Nat.mul_lt_mul_of_pos_right hV (Nat.pow_pos (by omega))
  have h4 : 10000 ^ 16 * 10 ^ 24 ≤ 10000 ^ 40 := by decide
  omega
/-- a sum with signs -/
def sSum (na : Bool) (A : Nat) (nb : Bool) (B : Nat) : Bool × Nat := if na = nb then (na, A + B) else if B ≤ A then (na, A - B) else (nb, B - A)
theorem cmpI_ge {A B : Nat} : decide (cmpI A B ≥ 0) = decide (B ≤ A) := by
  unfold cmpI
  split
  · rw [decide_eq_false (by omega), decide_eq_false (by omega)]
  · split
    · rw [decide_eq_true (by omega), decide_eq_true (by omega)]
    · rw [decide_eq_true (by omega), decide_eq_true (by omega)]
/-- numbers with signs compared -/
def sCmp (na : Bool) (A : Nat) (nb : Bool) (B : Nat) : Int := if na = nb then if na = true then cmpI B A else cmpI A B else if na = true then -1 else 1
theorem sSum_sCmp {na nb : Bool} {A B : Nat} (ha : na = true → 0 < A) (hb : nb = true → 0 < B) : (if (sSum na A (!nb) B).2 = 0 then 0 else if (sSum na A (!nb) B).1 = true then -1 else 1 : Int) = sCmp na A nb B := by
  unfold sSum sCmp
  cases na with
  | true =>
    have h1 := ha rfl
    cases nb with
    | true =>
      simp only [Bool.not_true, Bool.true_eq_false, if_false, if_true]
      rcases Nat.lt_trichotomy A B with h | h | h
      · rw [if_neg (show ¬ B ≤ A by omega), cmpI_gt h]
        simp only [Bool.false_eq_true, if_false]
        rw [if_neg (by omega)]
      · subst h
        simp [cmpI_eq]
      · rw [if_pos (show B ≤ A by omega), cmpI_lt h]
        simp only [if_true]
        rw [if_neg (by omega)]
    | false =>
      simp only [Bool.not_false, if_true, Bool.true_eq_false, if_false]
      rw [if_neg (by omega)]
  | false =>
    cases nb with
    | true =>
      have h2 := hb rfl
      simp only [Bool.not_true, if_true, Bool.false_eq_true, if_false]
      rw [if_neg (by omega)]
    | false =>
      simp only [Bool.not_false, Bool.false_eq_true, if_false, if_true]
      rcases Nat.lt_trichotomy A B with h | h | h
      · rw [if_neg (show ¬ B ≤ A by omega), cmpI_lt h]
        simp only [if_true]
        rw [if_neg (by omega)]
      · subst h
        simp [cmpI_eq]
      · rw [if_pos (show B ≤ A by omega), cmpI_gt h]
        simp only [Bool.false_eq_true, if_false]
        rw [if_neg (by omega)]
/-- how decimals in order compare -/
def dCmp (n1 : Bool) (l1 : List Int) (s1 : Nat) (n2 : Bool) (l2 : List Int) (s2 : Nat) : Int := sCmp n1 (num l1 * 10 ^ (max s1 s2 - s1)) n2 (num l2 * 10 ^ (max s1 s2 - s2))
section
variable {n1 n2 : Bool} {l1 l2 : List Int} {s1 s2 : Nat}
end
/-! ### the law's helpers -/
end Go.Proofs.Ytldjfonpegffiaa.R
end

section
/-! Rf, decimals: added; fresh memory. -/
set_option autoImplicit false
set_option linter.unusedSimpArgs false
namespace Go.Proofs.Ytldjfonpegffiaa.R
open Go.Rf
theorem VI_take_succ' {l : List Int} {i : Nat} : VI (l.take (i + 1)) = VI (l.take i) + l.getD i 0 * 10000 ^ i := by
  rcases Nat.lt_or_ge i l.length with h | h
  · exact VI_take_succ h
  · rw [List.take_of_length_le h, List.take_of_length_le (by omega), List.getD_eq_getElem?_getD, List.getElem?_eq_none h]
    simp
theorem getD0 {l : List Int} (h : InR l) (i : Nat) : 0 ≤ l.getD i 0 ∧ l.getD i 0 ≤ 9999 := by
  rcases Nat.lt_or_ge i l.length with h1 | h1
  · exact h.at h1
  · rw [List.getD_eq_getElem?_getD, List.getElem?_eq_none h1]
    exact ⟨Int.le_refl _, by decide⟩
theorem inrSnoc {l : List Int} {d : Int} (h : InR l) (hd : 0 ≤ d ∧ d ≤ 9999) : InR (l ++ [d]) := fun x hx => by
  rcases List.mem_append.1 hx with hx | hx
  · exact h x hx
  · rw [List.mem_singleton.1 hx]
    exact hd
theorem VI_snoc (l : List Int) (d : Int) : VI (l ++ [d]) = VI l + d * 10000 ^ l.length := by
  rw [VI_append]
  show VI l + 10000 ^ l.length * (d + 10000 * 0) = _
  grind
section
variable {a b : List Int}
end
def made (neg : Bool) (n : Nat) (s : Int) : (Bool × List Int × Int × Unit) × Int × Unit := if long (digs n) > 30 then ((false, [], 0, ()), 3, ()) else ((neg && decide (((digs n).length : Int) > 0), digs n, s, ()), 0, ())
theorem figs_ge : ∀ {l : List Int}, InR l → l ≠ [] → 4 * l.length ≤ (figs l).length + 4
  | [], _, h => absurd rfl h
  | [d], _, _ => by simp
  | d :: e :: l, h, _ => by
    have h1 := figs_ge h.cons.2 (by simp)
    have h2 := fig4_len h.cons.1
    rw [figs, List.length_append, h2, List.length_cons]
    omega
theorem long_small {l : List Int} (h : InR l) (hl : ¬ long l > 30) : l.length ≤ 16 := by
  unfold long at hl
  by_cases h0 : l.length = 0
  · omega
  · rw [if_neg h0, textL_pos (fun e => h0 (by rw [e]; rfl)), bytes_size] at hl
    have := figs_ge h (fun e => h0 (by rw [e]; rfl))
    omega
theorem sSum_lt {na nb : Bool} {A B C : Nat} (ha : A < C) (hb : B < C) : (sSum na A nb B).2 < 2 * C := by
  unfold sSum
  split
  · show A + B < _
    omega
  · split
    · show A - B < _
      omega
    · show B - A < _
      omega
theorem at_lt {V m : Nat} (hV : V < 10000 ^ 16) (hm : m ≤ 24) : V * 10 ^ m < 10000 ^ 40 := by
  have h1 : 10 ^ m ≤ 10 ^ 24 := Nat.pow_le_pow_right (by omega) hm
  have h2 : V * 10 ^ m ≤ V * 10 ^ 24 := Nat.mul_le_mul_left V h1
  have h3 : V * 10 ^ 24 < 10000 ^ 16 * 10 ^ 24 := Nat.mul_lt_mul_of_pos_right hV (Nat.pow_pos (by omega))
  have h4 : 10000 ^ 16 * 10 ^ 24 ≤ 10000 ^ 40 := by decide
  omega
theorem sum_len {na nb : Bool} {A B : Nat} (ha : A < 10000 ^ 40) (hb : B < 10000 ^ 40) : (digs (sSum na A nb B).2).length ≤ 41 := by
  refine digs_len_le ?_
  have h1 := sSum_lt (na := na) (nb := nb) ha hb
  have h2 : 2 * 10000 ^ 40 ≤ 10000 ^ 41 := by
    rw [Nat.pow_succ]
    have : 0 < 10000 ^ 40 := Nat.pow_pos (by omega)
    omega
  omega
section
variable {n1 n2 : Bool} {l1 l2 : List Int} {s1 s2 : Nat}
end
/-! ### marks -/
def marks (b : Int) (l : List Int) : List Int := (List.range l.length).map fun (i : Nat) => b + (i : Int)
theorem marks_len (b : Int) (l : List Int) : (marks b l).length = l.length := by simp [marks]
theorem marks_at {b : Int} {l : List Int} {i : Nat} (h : i < l.length) : (marks b l).getD i 0 = b + i := by
  rw [List.getD_eq_getElem?_getD]
  unfold marks
  rw [List.getElem?_map, List.getElem?_range h]
  rfl
end Go.Proofs.Ytldjfonpegffiaa.R
end

section
/-! Rf: division of limbs: both divisions come to the quotient and the rest. -/
set_option autoImplicit false
set_option linter.unusedSimpArgs false
set_option linter.unusedVariables false
namespace Go.Proofs.Ytldjfonpegffiaa.R
open Go.Rf
theorem u64_small {x : Int} (h0 : 0 ≤ x) (h1 : x ≤ 9999) : IntKind.u64.wrap x = x := by
  unfold IntKind.wrap
  simp [IntKind.bits, IntKind.signed]
  omega
theorem mid_eq {lo hi : Nat} (h : hi ≤ 10000) (hl : lo ≤ 10000) : IntKind.i64.wrap ((IntKind.i64.wrap ((IntKind.i64.wrap ((lo : Int) + (hi : Int))) + (1 : Int))).tdiv (2 : Int)) = (((lo + hi + 1) / 2 : Nat) : Int) := by
  rw [wrap64 (n := (lo : Int) + (hi : Int)) (by omega) (by omega), wrap64 (n := (lo : Int) + (hi : Int) + 1) (by omega) (by omega), Int.tdiv_eq_ediv_of_nonneg (by omega), wrap64 (by omega) (by omega)]
  omega
theorem mid_eq0 {lo hi : Nat} (h : hi ≤ 10000) (hl : lo ≤ 10000) : IntKind.i64.wrap ((IntKind.i64.wrap ((lo : Int) + (hi : Int))).tdiv (2 : Int)) = (((lo + hi) / 2 : Nat) : Int) := by
  rw [wrap64 (n := (lo : Int) + (hi : Int)) (by omega) (by omega), Int.tdiv_eq_ediv_of_nonneg (by omega), wrap64 (by omega) (by omega)]
  omega
theorem digs_InR (n : Nat) : InR (digs n) := (digs_spec n).1
theorem digs_Trim (n : Nat) : Trim (digs n) := (digs_spec n).2.1
theorem InR.one {d : Int} (h : 0 ≤ d ∧ d ≤ 9999) : InR [d] := InR.mk h InR.nil
theorem VI_one (d : Int) : VI [d] = d := by
  show d + 10000 * 0 = d
  omega
theorem cmpI_le {a b : Nat} : decide (cmpI a b ≤ 0) = decide (a ≤ b) := by
  unfold cmpI
  split
  · rw [decide_eq_true (by omega), decide_eq_true (by omega)]
  · split
    · rw [decide_eq_true (by omega), decide_eq_true (by omega)]
    · rw [decide_eq_false (by omega), decide_eq_false (by omega)]
section
variable {b : List Int} {B X : Nat}
theorem BN_len (hb : InR b) (lb : b.length ≤ 1000) (hB : VI b = (B : Int)) {n : Nat} (hn : n ≤ 10000) : (digs (B * n)).length ≤ 1001 := by
  have h1 := VI_lt hb
  rw [hB] at h1
  have h2 : B < 10000 ^ b.length := by
    have : ((B : Nat) : Int) < ((10000 ^ b.length : Nat) : Int) := by rw [Int.natCast_pow]; exact h1
    omega
  have h3 : B * n < 10000 ^ (b.length + 1) := by
    rw [Nat.pow_succ]
    exact Nat.lt_of_le_of_lt (Nat.mul_le_mul_left B hn) (Nat.mul_lt_mul_of_pos_right h2 (by omega))
  have := digs_len_le h3
  omega
theorem quo_of {n : Nat} (h1 : B * n ≤ X) (h2 : X < B * (n + 1)) : n = X / B := by
  have hp : 0 < B := by
    rcases Nat.eq_zero_or_pos B with h | h
    · subst h; omega
    · exact h
  symm
  rw [Nat.div_eq_iff hp]
  constructor
  · rw [Nat.mul_comm]; omega
  · rw [Nat.mul_comm]
    have : B * (n + 1) = B * n + B := Nat.mul_succ B n
    omega
end
end Go.Proofs.Ytldjfonpegffiaa.R
end

section
/-! Rf: quotients that are rounded; the least scale. -/
set_option autoImplicit false
set_option linter.unusedSimpArgs false
set_option linter.unusedVariables false
namespace Go.Proofs.Ytldjfonpegffiaa.R
open Go.Rf
theorem len_gt (n : Nat) : decide (((digs n).length : Int) > 0) = decide (n ≠ 0) := by
  by_cases h : n = 0
  · subst h
    rw [digs_zero]; rfl
  · rw [digs_pos h]
    rw [decide_eq_true h, decide_eq_true (by simp)]
theorem len_is0 (n : Nat) : (((digs n).length : Int) == 0) = decide (n = 0) := by
  by_cases h : n = 0
  · subst h
    rw [digs_zero]; rfl
  · rw [digs_pos h, decide_eq_false h, beq_eq_false_iff_ne]
    simp; omega
/-- whether what is left is rounded away from nought -/
def rmore (mode : Int) (neg odd : Bool) (half : Int) : Bool := if mode = 1 then true else if mode = 2 then false else if mode = 3 then !neg else if mode = 4 then neg else if mode = 5 then decide (half ≥ 0) else if mode = 6 then decide (half > 0) else (decide (half > 0) || (half == 0 && odd))
/-- a quotient that is rounded -/
def rquo (neg : Bool) (V D : Nat) (mode : Int) : Nat := if V % D = 0 then V / D else if rmore mode neg (decide (V / D % 2 = 1)) (cmpI (V % D + V % D) D) = true then V / D + 1 else V / D
def trimN : Nat → Nat → Nat × Nat
  | V, 0 => (V, 0)
  | V, s + 1 => if V % 10 = 0 then trimN (V / 10) s else (V, s + 1)
theorem div10_len {V : Nat} {m : Nat} (h : (digs V).length ≤ m) : (digs (V / 10)).length ≤ m := by
  have h1 := VI_lt (digs_InR V)
  rw [VI_digs] at h1
  have h2 : V < 10000 ^ (digs V).length := by
    have : ((V : Nat) : Int) < ((10000 ^ (digs V).length : Nat) : Int) := by rw [Int.natCast_pow]; exact h1
    omega
  have := digs_len_le (Nat.lt_of_le_of_lt (Nat.div_le_self V 10) h2)
  omega
/-- a decimal at its least scale -/
def dTrim (n : Bool) (l : List Int) (s : Int) : Bool × List Int × Int × Unit := if decOk n l s = true then (n, digs (trimN (num l) s.toNat).1, ((trimN (num l) s.toNat).2 : Int), ()) else (false, [], 0, ())
end Go.Proofs.Ytldjfonpegffiaa.R
end

section
/-! Rf: rounding to a scale. -/
set_option autoImplicit false
set_option linter.unusedSimpArgs false
set_option linter.unusedVariables false
namespace Go.Proofs.Ytldjfonpegffiaa.R
open Go.Rf
theorem made_len1 {neg : Bool} {n : Nat} {s : Int} (h : (digs n).length ≤ 1000) : (made neg n s).1.2.1.length ≤ 1000 := by
  unfold made
  split
  · show ([] : List Int).length ≤ 1000
    simp
  · exact h
theorem pow_len {V m : Nat} (hV : V < 10000 ^ 16) (hm : m ≤ 24) : (digs (V * 10 ^ m)).length ≤ 40 := digs_len_le (at_lt hV hm)
/-- what is not in order -/
def dForm : (Bool × List Int × Int × Unit) × Int × Unit := ((false, [], 0, ()), 1, ())
/-- a decimal rounded to a scale -/
def dRound (n : Bool) (l : List Int) (s sc mode : Int) : (Bool × List Int × Int × Unit) × Int × Unit := if decOk n l s = true ∧ within sc 0 12 = true ∧ within mode 1 7 = true then
  (if s.toNat ≤ sc.toNat then made n (num l * 10 ^ (sc.toNat - s.toNat)) sc else made n (rquo n (num l) (10 ^ (s.toNat - sc.toNat)) mode) sc) else dForm
end Go.Proofs.Ytldjfonpegffiaa.R
end

section
/-! Rf: products of decimals. -/
set_option autoImplicit false
set_option linter.unusedSimpArgs false
set_option linter.unusedVariables false
namespace Go.Proofs.Ytldjfonpegffiaa.R
open Go.Rf
def dMul (n1 : Bool) (l1 : List Int) (s1 : Int) (n2 : Bool) (l2 : List Int) (s2 : Int) : (Bool × List Int × Int × Unit) × Int × Unit := if decOk n1 l1 s1 = true ∧ decOk n2 l2 s2 = true then
  (if s1 + s2 > 12 then made (!(n1 == n2)) (rquo (!(n1 == n2)) (num l1 * num l2) (10 ^ (s1.toNat + s2.toNat - 12)) 7) 12 else made (!(n1 == n2)) (num l1 * num l2) (s1 + s2)) else dForm
section
variable (n1 : Bool) (l1 : List Int) (s1 : Int) (n2 : Bool) (l2 : List Int) (s2 : Int)
end
end Go.Proofs.Ytldjfonpegffiaa.R
end

section
/-! Rf, decimals: sums and differences, on both sides. -/
set_option autoImplicit false
set_option linter.unusedSimpArgs false
namespace Go.Proofs.Ytldjfonpegffiaa.R
open Go.Rf
theorem made_len {neg : Bool} {n : Nat} {s : Int} (h : (digs n).length ≤ 100) : (made neg n s).1.2.1.length ≤ 1000 := by
  unfold made
  split
  · show ([] : List Int).length ≤ 1000
    simp
  · show (digs n).length ≤ 1000
    omega
theorem sSum_zero {na nb : Bool} {A : Nat} : sSum na A nb 0 = (na, A) := by
  unfold sSum
  split
  · rfl
  · rw [if_pos (Nat.zero_le _)]
    rfl
section
variable (n1 : Bool) (l1 : List Int) (s1 : Int) (n2 : Bool) (l2 : List Int) (s2 : Int)
/-- the sum of decimals; nb: the second's sign (turned where they are taken from each other) -/
def dSum (n1 : Bool) (l1 : List Int) (s1 : Int) (n2 : Bool) (l2 : List Int) (s2 : Int) (nb : Bool) : (Bool × List Int × Int × Unit) × Int × Unit := if decOk n1 l1 s1 = true ∧ decOk n2 l2 s2 = true then
  made (sSum n1 (num l1 * 10 ^ (max s1.toNat s2.toNat - s1.toNat)) nb (num l2 * 10 ^ (max s1.toNat s2.toNat - s2.toNat))).1 (sSum n1 (num l1 * 10 ^ (max s1.toNat s2.toNat - s1.toNat)) nb (num l2 * 10 ^ (max s1.toNat s2.toNat - s2.toNat))).2 ((max s1.toNat s2.toNat : Nat) : Int) else ((false, [], 0, ()), 1, ())
end
end Go.Proofs.Ytldjfonpegffiaa.R
end
