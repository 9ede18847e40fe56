/- A part of the proof that the law FnValueCmp answers true for every input: contracts of functions that it reaches, or its plain law. -/
import Derived.Lib.Bytealg
import Derived.Test.YthpgglegdhjihaaGreatDoorProg
import Derived.KernelRfl
import Derived.RangeFuncNested
import Derived.RangeFuncBound
import Derived.RangeFuncCalls
import Derived.RangeFuncLeaves
import Derived.Shelf.Abstract
import Derived.Shelf.RegionOpen
import Derived.WalkKit
import Derived.OwnWalkIn
import Derived.TacticsInMore
import Derived.LoopNIn
import Derived.LoopIn
import Derived.Shelf.Strings.BuilderF
import Derived.Lib.FrozenHead2
import Derived.Lib.OthersKept
import Derived.Lib.ItoaNum
import Derived.Lib.Repeat
import Derived.Shelf.Strings.Builder1
import Derived.Shelf.Strings.Builder2
import Derived.Shelf.Small.Strs
import Derived.Shelf.Strings.BuilderK
import Derived.Shelf.Strings.Builder2Cap
import Derived.Shelf.Strconv.Itoa0
import Derived.Shelf.Strconv.Itoa1
import Derived.Shelf.LaysM
import Derived.Shelf.Strconv.Itoa2
import Derived.Shelf.Strconv.Itoa3
import Derived.Shelf.Strings.Prefix
import Derived.Shelf.Bits.Mul64
import Derived.Shelf.Strings.Repeat
import Derived.Ground.Names2Prog
import Derived.Shelf.Slices.SearchI
import Derived.Lib.LaidTab
import Derived.Lib.AppendIntMem
import Derived.Test.YthpgglegdhjihaaGreatDoorRows
import Derived.ProofKit
import Derived.OpenShut
import Derived.ShutString
import Derived.ChangeOld
import Derived.Below
import Derived.SizedLaws
import Derived.Carry
import Derived.Test.YthpgglegdhjihaaGreatDoorCards
import Derived.Test.YthpgglegdhjihaaGreatDoorTie
import Derived.LaidMore
import Derived.Stop.Joined
import Derived.Stop.LaidErr
import Derived.SevenTiedAt
import Derived.Test.YthpgglegdhjihaaGreatDoorCFnValueCmpx0
import Derived.Test.YthpgglegdhjihaaGreatDoorCFnValueCmpx1
import Derived.Test.YthpgglegdhjihaaGreatDoorCFnValueCmpx2
import Derived.Test.YthpgglegdhjihaaGreatDoorCFnValueCmpx3
namespace Go.Proofs.YthpgglegdhjihaaGreatDoor.Q
end Go.Proofs.YthpgglegdhjihaaGreatDoor.Q
namespace Go.Proofs.YthpgglegdhjihaaGreatDoor.R
end Go.Proofs.YthpgglegdhjihaaGreatDoor.R
namespace Go.Proofs.YthpgglegdhjihaaGreatDoorW.PrintLast
end Go.Proofs.YthpgglegdhjihaaGreatDoorW.PrintLast
namespace Go.Proofs.YthpgglegdhjihaaGreatDoorW.PrintMore
end Go.Proofs.YthpgglegdhjihaaGreatDoorW.PrintMore
namespace Go.Proofs.YthpgglegdhjihaaGreatDoorW.PrintWords
end Go.Proofs.YthpgglegdhjihaaGreatDoorW.PrintWords
section
/-! Rf: the seat's tables. -/
set_option autoImplicit false
namespace Go.Proofs.YthpgglegdhjihaaGreatDoor.R
open Go.Rf
noncomputable def tabs : Tabs where
  ty := [(3, ⟨false, [.int .i64], [], 8⟩),
    (4, ⟨false, [.bool], [], 1⟩),
    (5, ⟨false, [.int .u8], [], 1⟩),
    (9, ⟨false, [.str], [], 16⟩),
    (22, ⟨false, [.sl (.int .i64)], [], 24⟩),
    (24, ⟨true, [.bool, .sl (.int .i64)], [(0, 1, false), (1, 1, false)], 32⟩),
    (26, ⟨true, [.bool, .sl (.int .i64), .int .i64], [(0, 2, true), (2, 1, false)], 40⟩),
    (28, ⟨true, [.int .i64, .int .i64], [(0, 1, false), (1, 1, false)], 16⟩),
    (30, ⟨true, [.int .i64, .bool, .bool, .sl (.int .i64), .int .i64, .int .i64, .int .i64, .int .i64, .str], [(0, 1, false), (1, 1, false), (2, 3, true), (5, 1, false), (6, 2, true), (8, 1, false)], 96⟩),
    (34, ⟨true, [.bool, .sl (.int .i64)], [(0, 1, false), (1, 1, false)], 32⟩),
    (36, ⟨true, [.bool, .sl (.int .i64), .int .i64], [(0, 2, true), (2, 1, false)], 40⟩),
    (37, ⟨true, [.int .i64, .int .i64], [(0, 1, false), (1, 1, false)], 16⟩),
    (39, ⟨true, [.int .i64, .bool, .bool, .sl (.int .i64), .int .i64, .int .i64, .int .i64, .int .i64, .str], [(0, 1, false), (1, 1, false), (2, 3, true), (5, 1, false), (6, 2, true), (8, 1, false)], 96⟩),
    (56, ⟨false, [.sl (.int .u8)], [], 24⟩),
    (95, ⟨true, [.sl (.int .u8), .int .i64], [(0, 1, false), (1, 1, false)], 32⟩),
    (98, ⟨false, [.sl .str], [], 24⟩),
    (106, ⟨false, [.sl (.int .i64)], [], 24⟩),
    (112, ⟨true, [.bool, .sl (.int .i64)], [(0, 1, false), (1, 1, false)], 32⟩)]
  el := [(22, 3), (56, 5), (98, 9), (106, 3)]
  ifcs := []
  known := [3, 4, 6, 7, 8, 9, 10, 11, 12, 13, 14, 18, 22, 24, 25, 26, 27, 28, 29, 30, 31, 32, 33, 34, 35, 36, 37, 43, 45, 47, 48, 49, 50, 51, 52, 53, 54, 55, 56, 57, 58, 59, 60, 61, 62, 63, 64, 65, 66, 67, 68, 69, 70, 71, 72, 74, 75, 76, 77, 78, 79, 80, 81, 82, 83, 84, 85, 86, 87, 88, 89, 90, 91, 92, 93, 94, 95, 96, 97, 98, 99, 100, 102, 103, 104, 105, 106, 107, 108, 109, 110, 111, 112, 113, 114, 115, 116, 117, 119, 120, 121, 122, 123, 124, 130, 131, 132, 133, 134, 135, 136]
  spec := [(3, ⟨[.agg [.v (.int .i64), .v .bool, .v .bool, .v (.sl (.int .i64)), .v (.int .i64), .v (.int .i64), .v (.int .i64), .v (.int .i64), .v .str], .agg [.v (.int .i64), .v .bool, .v .bool, .v (.sl (.int .i64)), .v (.int .i64), .v (.int .i64), .v (.int .i64), .v (.int .i64), .v .str]], [.c (.v .bool)]⟩),
    (4, ⟨[.agg [.v (.int .i64), .v .bool, .v .bool, .v (.sl (.int .i64)), .v (.int .i64), .v (.int .i64), .v (.int .i64), .v (.int .i64), .v .str], .agg [.v (.int .i64), .v .bool, .v .bool, .v (.sl (.int .i64)), .v (.int .i64), .v (.int .i64), .v (.int .i64), .v (.int .i64), .v .str]], [.c (.v .bool)]⟩),
    (6, ⟨[.c (.v (.sl (.int .u8)))], [.c (.v .bool)]⟩),
    (7, ⟨[.c (.v (.sl (.int .u8))), .c (.v (.sl (.int .u8)))], [.c (.v .bool)]⟩),
    (8, ⟨[.agg [.v (.int .i64), .v .bool, .v .bool, .v (.sl (.int .i64)), .v (.int .i64), .v (.int .i64), .v (.int .i64), .v (.int .i64), .v .str], .c (.v (.int .i64))], [.c (.v (.int .i64))]⟩),
    (9, ⟨[.agg [.v (.int .i64), .v .bool, .v .bool, .v (.sl (.int .i64)), .v (.int .i64), .v (.int .i64), .v (.int .i64), .v (.int .i64), .v .str], .agg [.v (.int .i64), .v .bool, .v .bool, .v (.sl (.int .i64)), .v (.int .i64), .v (.int .i64), .v (.int .i64), .v (.int .i64), .v .str]], [.c (.v (.int .i64)), .c (.v .bool)]⟩),
    (10, ⟨[.agg [.v (.int .i64), .v .bool, .v .bool, .v (.sl (.int .i64)), .v (.int .i64), .v (.int .i64), .v (.int .i64), .v (.int .i64), .v .str]], [.agg [.v (.int .i64), .v .bool, .v .bool, .v (.sl (.int .i64)), .v (.int .i64), .v (.int .i64), .v (.int .i64), .v (.int .i64), .v .str]]⟩),
    (11, ⟨[.agg [.v (.int .i64), .v .bool, .v .bool, .v (.sl (.int .i64)), .v (.int .i64), .v (.int .i64), .v (.int .i64), .v (.int .i64), .v .str], .agg [.v (.int .i64), .v .bool, .v .bool, .v (.sl (.int .i64)), .v (.int .i64), .v (.int .i64), .v (.int .i64), .v (.int .i64), .v .str]], [.c (.v (.int .i64)), .c (.v .bool)]⟩),
    (12, ⟨[.agg [.v (.int .i64), .v .bool, .v .bool, .v (.sl (.int .i64)), .v (.int .i64), .v (.int .i64), .v (.int .i64), .v (.int .i64), .v .str], .agg [.v (.int .i64), .v .bool, .v .bool, .v (.sl (.int .i64)), .v (.int .i64), .v (.int .i64), .v (.int .i64), .v (.int .i64), .v .str]], [.c (.v .bool)]⟩),
    (13, ⟨[.agg [.v (.int .i64), .v .bool, .v .bool, .v (.sl (.int .i64)), .v (.int .i64), .v (.int .i64), .v (.int .i64), .v (.int .i64), .v .str], .agg [.v (.int .i64), .v .bool, .v .bool, .v (.sl (.int .i64)), .v (.int .i64), .v (.int .i64), .v (.int .i64), .v (.int .i64), .v .str]], [.c (.v (.int .i64))]⟩),
    (14, ⟨[.agg [.v (.int .i64), .v .bool, .v .bool, .v (.sl (.int .i64)), .v (.int .i64), .v (.int .i64), .v (.int .i64), .v (.int .i64), .v .str], .agg [.v (.int .i64), .v .bool, .v .bool, .v (.sl (.int .i64)), .v (.int .i64), .v (.int .i64), .v (.int .i64), .v (.int .i64), .v .str]], [.c (.v (.int .i64))]⟩),
    (18, ⟨[.c (.v (.sl (.int .i64)))], [.c (.v (.sl (.int .i64)))]⟩),
    (22, ⟨[.c (.v (.sl (.int .i64))), .c (.v (.sl (.int .i64)))], [.c (.v .bool)]⟩),
    (24, ⟨[.c (.v (.sl (.int .u8)))], [.agg [.v (.int .i64), .v .bool, .v .bool, .v (.sl (.int .i64)), .v (.int .i64), .v (.int .i64), .v (.int .i64), .v (.int .i64), .v .str], .agg [.v (.int .i64), .v .bool, .v .bool, .v (.sl (.int .i64)), .v (.int .i64), .v (.int .i64), .v (.int .i64), .v (.int .i64), .v .str]]⟩),
    (25, ⟨[.agg [.v (.int .i64), .v .bool, .v .bool, .v (.sl (.int .i64)), .v (.int .i64), .v (.int .i64), .v (.int .i64), .v (.int .i64), .v .str]], [.c (.v .bool)]⟩),
    (26, ⟨[.agg [.v (.int .i64), .v .bool, .v .bool, .v (.sl (.int .i64)), .v (.int .i64), .v (.int .i64), .v (.int .i64), .v (.int .i64), .v .str]], [.c (.v .bool)]⟩),
    (27, ⟨[.c (.v (.sl (.int .u8)))], [.agg [.v (.int .i64), .v .bool, .v .bool, .v (.sl (.int .i64)), .v (.int .i64), .v (.int .i64), .v (.int .i64), .v (.int .i64), .v .str], .agg [.v (.int .i64), .v .bool, .v .bool, .v (.sl (.int .i64)), .v (.int .i64), .v (.int .i64), .v (.int .i64), .v (.int .i64), .v .str]]⟩),
    (28, ⟨[.agg [.v .bool, .v (.sl (.int .i64)), .v (.int .i64)], .c (.v (.int .i64))], [.c (.v (.int .i64))]⟩),
    (29, ⟨[.agg [.v (.int .i64), .v .bool, .v .bool, .v (.sl (.int .i64)), .v (.int .i64), .v (.int .i64), .v (.int .i64), .v (.int .i64), .v .str]], [.c (.v .bool)]⟩),
    (30, ⟨[.agg [.v (.int .i64), .v .bool, .v .bool, .v (.sl (.int .i64)), .v (.int .i64), .v (.int .i64), .v (.int .i64), .v (.int .i64), .v .str], .agg [.v (.int .i64), .v .bool, .v .bool, .v (.sl (.int .i64)), .v (.int .i64), .v (.int .i64), .v (.int .i64), .v (.int .i64), .v .str]], [.c (.v (.int .i64))]⟩),
    (31, ⟨[.agg [.v .bool, .v (.sl (.int .i64)), .v (.int .i64)]], [.agg [.v .bool, .v (.sl (.int .i64)), .v (.int .i64)]]⟩),
    (32, ⟨[.agg [.v (.int .i64), .v (.int .i64)]], [.agg [.v (.int .i64), .v (.int .i64)]]⟩),
    (33, ⟨[.agg [.v (.int .i64), .v .bool, .v .bool, .v (.sl (.int .i64)), .v (.int .i64), .v (.int .i64), .v (.int .i64), .v (.int .i64), .v .str], .agg [.v (.int .i64), .v .bool, .v .bool, .v (.sl (.int .i64)), .v (.int .i64), .v (.int .i64), .v (.int .i64), .v (.int .i64), .v .str]], [.c (.v (.int .i64))]⟩),
    (34, ⟨[.agg [.v .bool, .v (.sl (.int .i64)), .v (.int .i64)], .agg [.v .bool, .v (.sl (.int .i64)), .v (.int .i64)]], [.c (.v .bool)]⟩),
    (35, ⟨[.agg [.v (.int .i64), .v (.int .i64)], .agg [.v (.int .i64), .v (.int .i64)]], [.c (.v .bool)]⟩),
    (36, ⟨[.agg [.v (.int .i64), .v .bool, .v .bool, .v (.sl (.int .i64)), .v (.int .i64), .v (.int .i64), .v (.int .i64), .v (.int .i64), .v .str], .agg [.v (.int .i64), .v .bool, .v .bool, .v (.sl (.int .i64)), .v (.int .i64), .v (.int .i64), .v (.int .i64), .v (.int .i64), .v .str]], [.c (.v (.int .i64))]⟩),
    (37, ⟨[.agg [.v (.int .i64), .v .bool, .v .bool, .v (.sl (.int .i64)), .v (.int .i64), .v (.int .i64), .v (.int .i64), .v (.int .i64), .v .str], .agg [.v (.int .i64), .v .bool, .v .bool, .v (.sl (.int .i64)), .v (.int .i64), .v (.int .i64), .v (.int .i64), .v (.int .i64), .v .str]], [.c (.v (.int .i64))]⟩),
    (45, ⟨[.c (.v (.int .i64)), .c (.v (.int .i64)), .c (.v (.int .i64))], [.c (.v .bool)]⟩),
    (47, ⟨[.c (.v (.sl (.int .u8)))], [.box [.v (.sl (.int .u8)), .v (.int .i64)]]⟩),
    (48, ⟨[.box [.v (.sl (.int .u8)), .v (.int .i64)]], [.agg [.v (.int .i64), .v .bool, .v .bool, .v (.sl (.int .i64)), .v (.int .i64), .v (.int .i64), .v (.int .i64), .v (.int .i64), .v .str]]⟩),
    (49, ⟨[.box [.v (.sl (.int .u8)), .v (.int .i64)], .c (.v (.int .i64))], [.c (.v (.int .i64))]⟩),
    (50, ⟨[.box [.v (.sl (.int .u8)), .v (.int .i64)], .c (.v (.int .i64))], [.agg [.v (.int .i64), .v .bool, .v .bool, .v (.sl (.int .i64)), .v (.int .i64), .v (.int .i64), .v (.int .i64), .v (.int .i64), .v .str]]⟩),
    (51, ⟨[.agg [.v .bool, .v (.sl (.int .i64)), .v (.int .i64)]], [.c (.v .bool)]⟩),
    (52, ⟨[.c (.v (.int .i64))], [.c (.v .bool)]⟩),
    (53, ⟨[.agg [.v (.int .i64), .v (.int .i64)]], [.c (.v .bool)]⟩),
    (54, ⟨[.agg [.v .bool, .v (.sl (.int .i64)), .v (.int .i64)]], [.c (.v .bool)]⟩),
    (55, ⟨[.agg [.v .bool, .v (.sl (.int .i64))], .c (.v (.int .i64))], [.c (.v (.int .i64))]⟩),
    (56, ⟨[.c (.v (.int .i64)), .c (.v (.int .i64)), .c (.v (.int .i64))], [.c (.v .bool)]⟩),
    (57, ⟨[.agg [.v (.int .i64), .v .bool, .v .bool, .v (.sl (.int .i64)), .v (.int .i64), .v (.int .i64), .v (.int .i64), .v (.int .i64), .v .str]], [.c (.v .bool)]⟩),
    (58, ⟨[.agg [.v .bool, .v (.sl (.int .i64)), .v (.int .i64)]], [.c (.v .bool)]⟩),
    (59, ⟨[.c (.v (.int .i64))], [.c (.v .bool)]⟩),
    (60, ⟨[.agg [.v (.int .i64), .v (.int .i64)]], [.c (.v .bool)]⟩),
    (61, ⟨[.c (.v .str)], [.c (.v .bool)]⟩),
    (62, ⟨[.c (.v (.int .i64)), .c (.v (.int .i64))], [.c (.v (.int .i64))]⟩),
    (63, ⟨[.c (.v .bool)], [.c (.v (.int .i64))]⟩),
    (64, ⟨[.agg [.v .bool, .v (.sl (.int .i64)), .v (.int .i64)], .agg [.v .bool, .v (.sl (.int .i64)), .v (.int .i64)]], [.c (.v (.int .i64))]⟩),
    (65, ⟨[.c (.v .str), .c (.v .str)], [.c (.v (.int .i64))]⟩),
    (66, ⟨[.agg [.v .bool, .v (.sl (.int .i64))]], [.agg [.v .bool, .v (.sl (.int .i64))]]⟩),
    (67, ⟨[.c (.v .bool)], [.c (.v (.int .i64))]⟩),
    (68, ⟨[.agg [.v .bool, .v (.sl (.int .i64)), .v (.int .i64)], .agg [.v .bool, .v (.sl (.int .i64)), .v (.int .i64)]], [.c (.v (.int .i64))]⟩),
    (69, ⟨[.c (.v (.int .i64)), .c (.v (.int .i64))], [.c (.v (.int .i64))]⟩),
    (70, ⟨[.c (.v (.sl (.int .i64)))], [.c (.v (.int .i64))]⟩),
    (71, ⟨[.c (.v .str), .c (.v .str)], [.c (.v (.int .i64))]⟩),
    (72, ⟨[.agg [.v .bool, .v (.sl (.int .i64))], .agg [.v .bool, .v (.sl (.int .i64))]], [.c (.v .bool)]⟩),
    (75, ⟨[.box [.v (.sl (.int .u8)), .v (.int .i64)]], [.agg [.v (.int .i64), .v .bool, .v .bool, .v (.sl (.int .i64)), .v (.int .i64), .v (.int .i64), .v (.int .i64), .v (.int .i64), .v .str]]⟩),
    (76, ⟨[.box [.v (.sl (.int .u8)), .v (.int .i64)], .c (.o (.int .i64) 3 false)], [.c (.v (.int .i64))]⟩),
    (77, ⟨[.box [.v (.sl (.int .u8)), .v (.int .i64)], .c (.o .str 9 false)], [.c (.v .str)]⟩),
    (78, ⟨[.box [.v (.sl (.int .u8)), .v (.int .i64)]], [.agg [.v .bool, .v (.sl (.int .i64)), .v (.int .i64)]]⟩),
    (79, ⟨[.box [.v (.sl (.int .u8)), .v (.int .i64)]], [.c (.v (.int .i64))]⟩),
    (80, ⟨[.box [.v (.sl (.int .u8)), .v (.int .i64)]], [.agg [.v (.int .i64), .v (.int .i64)]]⟩),
    (81, ⟨[.c (.v .bool)], [.agg [.v (.int .i64), .v .bool, .v .bool, .v (.sl (.int .i64)), .v (.int .i64), .v (.int .i64), .v (.int .i64), .v (.int .i64), .v .str]]⟩),
    (82, ⟨[.agg [.v .bool, .v (.sl (.int .i64)), .v (.int .i64)]], [.agg [.v (.int .i64), .v .bool, .v .bool, .v (.sl (.int .i64)), .v (.int .i64), .v (.int .i64), .v (.int .i64), .v (.int .i64), .v .str]]⟩),
    (83, ⟨[.box [.v (.sl (.int .u8)), .v (.int .i64)]], [.agg [.v .bool, .v (.sl (.int .i64)), .v (.int .i64)]]⟩),
    (84, ⟨[.box [.v (.sl (.int .u8)), .v (.int .i64)]], [.c (.v (.int .i64))]⟩),
    (85, ⟨[.box [.v (.sl (.int .u8)), .v (.int .i64)]], [.agg [.v (.int .i64), .v (.int .i64)]]⟩),
    (86, ⟨[.box [.v (.sl (.int .u8)), .v (.int .i64)]], [.c (.v .str)]⟩),
    (87, ⟨[.agg [.v .bool, .v (.sl (.int .i64))]], [.c (.v .bool)]⟩),
    (88, ⟨[.c (.v (.sl (.int .i64)))], [.c (.v (.int .i64))]⟩),
    (89, ⟨[.c (.v (.sl (.int .i64))), .c (.v (.int .i64))], [.c (.v (.int .i64))]⟩),
    (90, ⟨[.agg [.v .bool, .v (.sl (.int .i64)), .v (.int .i64)]], [.c (.v .bool)]⟩),
    (91, ⟨[.agg [.v .bool, .v (.sl (.int .i64))]], [.c (.v .bool)]⟩),
    (92, ⟨[.c (.v (.sl (.int .i64)))], [.c (.v (.int .i64))]⟩),
    (93, ⟨[.c (.v (.int .i64)), .c (.v (.int .i64))], [.c (.v (.int .i64))]⟩),
    (94, ⟨[.agg [.v .bool, .v (.sl (.int .i64)), .v (.int .i64)], .c (.v (.int .i64))], [.c (.v (.sl (.int .i64)))]⟩),
    (95, ⟨[.agg [.v .bool, .v (.sl (.int .i64))], .agg [.v .bool, .v (.sl (.int .i64))]], [.c (.v (.int .i64))]⟩),
    (96, ⟨[.agg [.v .bool, .v (.sl (.int .i64)), .v (.int .i64)], .c (.v (.int .i64))], [.agg [.v .bool, .v (.sl (.int .i64))]]⟩),
    (97, ⟨[.agg [.v .bool, .v (.sl (.int .i64))], .agg [.v .bool, .v (.sl (.int .i64))]], [.agg [.v .bool, .v (.sl (.int .i64))]]⟩),
    (98, ⟨[.agg [.v .bool, .v (.sl (.int .i64))]], [.agg [.v .bool, .v (.sl (.int .i64))]]⟩),
    (99, ⟨[.agg [.v .bool, .v (.sl (.int .i64))]], [.c (.v (.int .i64))]⟩),
    (100, ⟨[.c (.v (.int .i64))], [.c (.v .bool)]⟩),
    (102, ⟨[.box [.v (.sl (.int .u8)), .v (.int .i64)], .c (.v (.int .i64))], [.agg [.v .bool, .o (.int .i64) 3 true]]⟩),
    (103, ⟨[.box [.v (.sl (.int .u8)), .v (.int .i64)]], [.agg [.v .bool, .v (.sl (.int .i64))]]⟩),
    (104, ⟨[.c (.v (.int .i64))], [.agg [.v .bool, .v (.sl (.int .i64))]]⟩),
    (105, ⟨[.c (.v (.int .i64)), .c (.v (.int .i64)), .c (.v (.int .i64))], [.c (.v (.int .i64))]⟩),
    (106, ⟨[.c (.v (.int .i64))], [.c (.v .bool)]⟩),
    (107, ⟨[.c (.v (.sl (.int .i64)))], [.c (.v .str)]⟩),
    (108, ⟨[.c (.v (.sl (.int .i64)))], [.c (.v .str)]⟩),
    (109, ⟨[.c (.v (.sl (.int .i64))), .c (.v (.sl (.int .i64)))], [.c (.v (.sl (.int .i64)))]⟩),
    (110, ⟨[.c (.v (.int .i64))], [.c (.v (.sl (.int .i64)))]⟩),
    (111, ⟨[.c (.v (.sl (.int .i64))), .c (.v (.sl (.int .i64)))], [.c (.v (.int .i64))]⟩),
    (112, ⟨[.agg [.v .bool, .v (.sl (.int .i64))]], [.agg [.v .bool, .v (.sl (.int .i64))]]⟩),
    (113, ⟨[.c (.v (.sl (.int .i64))), .c (.v (.sl (.int .i64)))], [.c (.v (.sl (.int .i64)))]⟩),
    (114, ⟨[.c (.v (.int .i64))], [.c (.v (.sl (.int .i64)))]⟩),
    (115, ⟨[.c (.v (.sl (.int .i64))), .c (.v (.sl (.int .i64)))], [.c (.v (.sl (.int .i64)))]⟩),
    (116, ⟨[.c (.v (.sl (.int .i64))), .c (.v (.sl (.int .i64)))], [.c (.v (.int .i64))]⟩),
    (117, ⟨[.c (.v (.sl (.int .i64))), .c (.v (.sl (.int .i64)))], [.c (.v (.sl (.int .i64)))]⟩),
    (119, ⟨[.box [.v (.sl (.int .u8)), .v (.int .i64)], .c (.v (.int .i64))], [.c (.v .str)]⟩),
    (120, ⟨[.c (.v .str), .c (.v (.int .i64))], [.c (.v .str)]⟩),
    (121, ⟨[.c (.v .bool), .c (.v (.sl (.int .i64)))], [.agg [.v .bool, .o (.int .i64) 3 true], .c (.v .bool)]⟩),
    (122, ⟨[.c (.v .str)], [.c (.v (.sl (.int .i64)))]⟩),
    (123, ⟨[.c (.v (.int .i64))], [.c (.v (.int .i64))]⟩),
    (124, ⟨[.c (.v (.int .i64)), .c (.v (.int .i64))], [.c (.v (.int .i64))]⟩),
    (130, ⟨[.c (.v (.int .i64))], [.c (.v .str)]⟩),
    (131, ⟨[.c (.v (.int .i64)), .c (.v (.int .i64))], [.c (.v .str)]⟩),
    (132, ⟨[.c (.v (.sl (.int .i64))), .c (.v (.int .i64))], [.c (.v (.int .i64))]⟩),
    (133, ⟨[.c (.v (.sl (.int .i64)))], [.c (.o (.int .i64) 3 true)]⟩),
    (134, ⟨[.c (.v (.sl (.int .i64)))], [.c (.v (.sl (.int .i64)))]⟩),
    (135, ⟨[.c (.v (.sl (.int .i64)))], [.c (.o (.int .i64) 3 true)]⟩),
    (136, ⟨[.c (.v (.int .i64))], [.c (.v .bool)]⟩),
    (107043, ⟨[.c (.v (.sl (.int .i64))), .clo 106 []], [.c (.v .bool)]⟩),
    (107074, ⟨[.c (.v (.sl (.int .i64))), .clo 106 []], [.c (.v (.int .i64))]⟩)]
  cut := [(18, [(3, [(0, .c (.v (.sl (.int .i64)))), (3, .c (.o (.int .i64) 3 true)), (4, .c (.v (.int .i64)))])]),
    (22, [(4, [(0, .c (.v (.sl (.int .i64)))), (1, .c (.v (.sl (.int .i64)))), (5, .c (.v (.int .i64)))])]),
    (25, [(17, [(1, .box [.v (.int .i64), .v .bool, .v .bool, .v (.sl (.int .i64)), .v (.int .i64), .v (.int .i64), .v (.int .i64), .v (.int .i64), .v .str]), (3, .box [.v (.int .i64), .v .bool, .v .bool, .v (.sl (.int .i64)), .v (.int .i64), .v (.int .i64), .v (.int .i64), .v (.int .i64), .v .str]), (4, .c (.v .bool)), (43, .c (.v (.int .i64))), (44, .c (.v (.int .i64)))]), (21, [(3, .box [.v (.int .i64), .v .bool, .v .bool, .v (.sl (.int .i64)), .v (.int .i64), .v (.int .i64), .v (.int .i64), .v (.int .i64), .v .str]), (4, .c (.v .bool))])]),
    (47, [(3, [(0, .c (.v (.sl (.int .u8))))])]),
    (48, [(15, [(0, .box [.v (.sl (.int .u8)), .v (.int .i64)]), (2, .box [.v (.int .i64), .v .bool, .v .bool, .v (.sl (.int .i64)), .v (.int .i64), .v (.int .i64), .v (.int .i64), .v (.int .i64), .v .str]), (3, .box [.v (.int .i64), .v .bool, .v .bool, .v (.sl (.int .i64)), .v (.int .i64), .v (.int .i64), .v (.int .i64), .v (.int .i64), .v .str])])]),
    (61, [(2, [(0, .c (.v .str)), (3, .c (.v (.int .i64)))])]),
    (70, [(3, [(3, .c (.v (.int .i64))), (6, .c (.v (.sl (.int .i64)))), (7, .c (.v (.int .i64))), (8, .c (.v (.int .i64)))])]),
    (78, [(9, [(0, .box [.v (.sl (.int .u8)), .v (.int .i64)]), (2, .box [.v .bool, .v (.sl (.int .i64)), .v (.int .i64)]), (3, .box [.v .bool, .v (.sl (.int .i64)), .v (.int .i64)])])]),
    (80, [(4, [(0, .box [.v (.sl (.int .u8)), .v (.int .i64)]), (2, .box [.v (.int .i64), .v (.int .i64)]), (3, .box [.v (.int .i64), .v (.int .i64)])]), (6, [(0, .box [.v (.sl (.int .u8)), .v (.int .i64)]), (2, .box [.v (.int .i64), .v (.int .i64)]), (3, .box [.v (.int .i64), .v (.int .i64)])])]),
    (91, [(4, [(1, .box [.v .bool, .v (.sl (.int .i64))]), (3, .c (.v (.int .i64)))])]),
    (102, [(4, [(0, .box [.v (.sl (.int .u8)), .v (.int .i64)]), (4, .box [.v .bool, .v (.sl (.int .i64))]), (5, .c (.v (.int .i64)))]), (7, [(0, .box [.v (.sl (.int .u8)), .v (.int .i64)]), (4, .box [.v .bool, .v (.sl (.int .i64))]), (5, .c (.v (.int .i64))), (6, .c (.v .str))]), (9, [(0, .box [.v (.sl (.int .u8)), .v (.int .i64)]), (4, .box [.v .bool, .v (.sl (.int .i64))]), (6, .c (.v .str))])]),
    (103, [(10, [(0, .box [.v (.sl (.int .u8)), .v (.int .i64)]), (2, .box [.v .bool, .v (.sl (.int .i64))]), (3, .box [.v .bool, .o (.int .i64) 3 true])]), (12, [(0, .box [.v (.sl (.int .u8)), .v (.int .i64)]), (2, .box [.v .bool, .v (.sl (.int .i64))]), (3, .box [.v .bool, .o (.int .i64) 3 true])])]),
    (104, [(3, [(0, .c (.v (.int .i64))), (2, .box [.v .bool, .v (.sl (.int .i64))]), (3, .c (.o (.int .i64) 3 true)), (4, .c (.v (.int .i64)))]), (7, [(0, .c (.v (.int .i64))), (2, .box [.v .bool, .v (.sl (.int .i64))]), (3, .c (.o (.int .i64) 3 true)), (4, .c (.v (.int .i64))), (5, .c (.v (.int .i64)))])]),
    (105, [(3, [(0, .c (.v (.int .i64))), (1, .c (.v (.int .i64))), (7, .c (.v (.int .i64))), (8, .c (.v (.int .i64)))])]),
    (108, [(5, [(0, .c (.v (.sl (.int .i64)))), (3, .c (.v .str)), (4, .c (.v (.int .i64)))])]),
    (109, [(3, [(0, .c (.v (.sl (.int .i64)))), (1, .c (.v (.sl (.int .i64)))), (5, .c (.o (.int .i64) 3 true)), (6, .c (.v (.int .i64)))]), (7, [(0, .c (.v (.sl (.int .i64)))), (1, .c (.v (.sl (.int .i64)))), (5, .c (.o (.int .i64) 3 true)), (6, .c (.v (.int .i64))), (7, .c (.v (.int .i64))), (8, .c (.v (.int .i64)))])]),
    (110, [(2, [(0, .c (.v (.int .i64))), (3, .c (.o (.int .i64) 3 true))]), (6, [(0, .c (.v (.int .i64))), (3, .c (.o (.int .i64) 3 true)), (4, .c (.v (.int .i64)))])]),
    (111, [(6, [(0, .c (.v (.sl (.int .i64)))), (1, .c (.v (.sl (.int .i64)))), (5, .c (.v (.int .i64)))])]),
    (113, [(3, [(1, .c (.v (.sl (.int .i64)))), (5, .c (.o (.int .i64) 3 true)), (19, .c (.v (.sl (.int .i64)))), (20, .c (.v (.int .i64))), (21, .c (.v (.int .i64)))]), (7, [(1, .c (.v (.sl (.int .i64)))), (5, .c (.o (.int .i64) 3 true)), (6, .c (.v (.int .i64))), (7, .c (.v (.int .i64))), (8, .c (.v (.int .i64))), (19, .c (.v (.sl (.int .i64)))), (20, .c (.v (.int .i64))), (21, .c (.v (.int .i64))), (26, .c (.v (.sl (.int .i64)))), (27, .c (.v (.int .i64))), (28, .c (.v (.int .i64)))])]),
    (114, [(3, [(3, .c (.v (.sl (.int .i64)))), (5, .c (.v (.int .i64))), (6, .c (.v (.int .i64)))])]),
    (115, [(4, [(5, .c (.o (.int .i64) 3 true)), (19, .c (.v (.sl (.int .i64)))), (20, .c (.v (.int .i64))), (21, .c (.v (.int .i64)))]), (9, [(5, .c (.o (.int .i64) 3 true)), (36, .c (.v (.int .i64))), (37, .c (.v (.int .i64)))])]),
    (116, [(4, [(0, .c (.v (.sl (.int .i64)))), (1, .c (.v (.sl (.int .i64)))), (5, .c (.v (.int .i64)))])]),
    (117, [(3, [(5, .c (.o (.int .i64) 3 true)), (11, .c (.v (.sl (.int .i64)))), (12, .c (.v (.int .i64))), (13, .c (.v (.int .i64)))]), (8, [(5, .c (.o (.int .i64) 3 true)), (27, .c (.v (.int .i64))), (28, .c (.v (.int .i64)))]), (13, [(5, .c (.o (.int .i64) 3 true)), (27, .c (.v (.int .i64))), (28, .c (.v (.int .i64)))])]),
    (119, [(4, [(0, .box [.v (.sl (.int .u8)), .v (.int .i64)]), (1, .c (.v (.int .i64))), (5, .c (.v .str))])]),
    (120, [(2, [(0, .c (.v .str)), (1, .c (.v (.int .i64))), (5, .c (.v .str))])]),
    (122, [(2, [(0, .c (.v .str)), (3, .c (.o (.int .i64) 3 true))]), (6, [(0, .c (.v .str)), (3, .c (.o (.int .i64) 3 true)), (4, .c (.v (.int .i64)))]), (8, [(0, .c (.v .str)), (3, .c (.o (.int .i64) 3 true)), (4, .c (.v (.int .i64))), (5, .c (.v (.int .i64))), (6, .c (.v (.int .i64)))])]),
    (124, [(11, [])]),
    (131, [(2, [(1, .c (.v (.int .i64))), (5, .c (.v .str))])]),
    (133, [(2, [(0, .c (.v (.sl (.int .i64)))), (3, .c (.v (.int .i64)))])]),
    (134, [(1, [(0, .c (.v (.sl (.int .i64))))])]),
    (107074, [(2, [(0, .c (.v (.sl (.int .i64)))), (1, .clo 106 []), (7, .c (.v (.int .i64))), (8, .c (.v (.int .i64)))])])]
  eqs := [(37, [.int .i64, .int .i64])]
theorem tabs_ok : tabs.ok Tryz.prog = true := by kernel_rfl
noncomputable def compareR (x : ByteArray × ByteArray × Unit) : Option ((Int × Unit) × (Unit × Unit × Unit)) := some ((Lib.compareBytes x.1.data.toList x.2.1.data.toList, ()), ((), (), ()))
noncomputable def extR : (f : Nat) → Option ((specOf tabs.spec f).In → Option (specOf tabs.spec f).Out) := fun f => match f with
  | 107 => some textR
  | 71 => some compareR
  | _ => none
/-- the variable that holds strconv's powers of ten, and its cells -/
def powG : Nat := 1
def powCells : Array Value := (Lib.pow10Tab.map fun z => Value.int .u64 z).toArray
def objsR : Nat → Option (Array Value) := fun g => if g = powG then some powCells else none
noncomputable def cx : Go.Rf.Cx := tabs.cx Tryz.prog extR (fun _ => none) objsR
theorem good : Go.Rf.Good cx := Go.Rf.Tabs.good tabs_ok
end Go.Proofs.YthpgglegdhjihaaGreatDoor.R
end

section
/-! Rf: the functions, and what each answers. -/
set_option autoImplicit false
set_option linter.unusedVariables false
namespace Go.Proofs.YthpgglegdhjihaaGreatDoor.R
open Go.Rf
/-! loop.example/jetton/laws.FnExactValueCmp -/
noncomputable def F3 (k : Nat) (a0_0 : Int) (a0_1 : Bool) (a0_2 : Bool) (a0_3 : List Int) (a0_4 : Int) (a0_5 : Int) (a0_6 : Int) (a0_7 : Int) (a0_8 : ByteArray) (a1_0 : Int) (a1_1 : Bool) (a1_2 : Bool) (a1_3 : List Int) (a1_4 : Int) (a1_5 : Int) (a1_6 : Int) (a1_7 : Int) (a1_8 : ByteArray) : Option ((Bool × Unit) × ((Unit × Unit × Unit × Unit × Unit × Unit × Unit × Unit × Unit × Unit) × (Unit × Unit × Unit × Unit × Unit × Unit × Unit × Unit × Unit × Unit) × Unit)) := callF cx k 3 ((a0_0, a0_1, a0_2, a0_3, a0_4, a0_5, a0_6, a0_7, a0_8, ()), (a1_0, a1_1, a1_2, a1_3, a1_4, a1_5, a1_6, a1_7, a1_8, ()), ())
/-! loop.example/jetton/laws.FnExactValueOrder -/
noncomputable def F4 (k : Nat) (a0_0 : Int) (a0_1 : Bool) (a0_2 : Bool) (a0_3 : List Int) (a0_4 : Int) (a0_5 : Int) (a0_6 : Int) (a0_7 : Int) (a0_8 : ByteArray) (a1_0 : Int) (a1_1 : Bool) (a1_2 : Bool) (a1_3 : List Int) (a1_4 : Int) (a1_5 : Int) (a1_6 : Int) (a1_7 : Int) (a1_8 : ByteArray) : Option ((Bool × Unit) × ((Unit × Unit × Unit × Unit × Unit × Unit × Unit × Unit × Unit × Unit) × (Unit × Unit × Unit × Unit × Unit × Unit × Unit × Unit × Unit × Unit) × Unit)) := callF cx k 4 ((a0_0, a0_1, a0_2, a0_3, a0_4, a0_5, a0_6, a0_7, a0_8, ()), (a1_0, a1_1, a1_2, a1_3, a1_4, a1_5, a1_6, a1_7, a1_8, ()), ())
/-! loop.example/jetton/laws.FnValueCmp -/
noncomputable def F6 (k : Nat) (a0 : List Int) : Option ((Bool × Unit) × (Unit × Unit)) := callF cx k 6 (a0, ())
/-! loop.example/jetton/laws.FnValueOrder -/
noncomputable def F7 (k : Nat) (a0 : List Int) (a1 : List Int) : Option ((Bool × Unit) × (Unit × Unit × Unit)) := callF cx k 7 (a0, a1, ())
/-! loop.example/jetton/laws.szValue -/
noncomputable def F8 (k : Nat) (a0_0 : Int) (a0_1 : Bool) (a0_2 : Bool) (a0_3 : List Int) (a0_4 : Int) (a0_5 : Int) (a0_6 : Int) (a0_7 : Int) (a0_8 : ByteArray) (a1 : Int) : Option ((Int × Unit) × ((Unit × Unit × Unit × Unit × Unit × Unit × Unit × Unit × Unit × Unit) × Unit × Unit)) := callF cx k 8 ((a0_0, a0_1, a0_2, a0_3, a0_4, a0_5, a0_6, a0_7, a0_8, ()), a1, ())
/-! loop.example/jetton/spec.ValueCmp -/
noncomputable def F9 (k : Nat) (a0_0 : Int) (a0_1 : Bool) (a0_2 : Bool) (a0_3 : List Int) (a0_4 : Int) (a0_5 : Int) (a0_6 : Int) (a0_7 : Int) (a0_8 : ByteArray) (a1_0 : Int) (a1_1 : Bool) (a1_2 : Bool) (a1_3 : List Int) (a1_4 : Int) (a1_5 : Int) (a1_6 : Int) (a1_7 : Int) (a1_8 : ByteArray) : Option ((Int × Bool × Unit) × ((Unit × Unit × Unit × Unit × Unit × Unit × Unit × Unit × Unit × Unit) × (Unit × Unit × Unit × Unit × Unit × Unit × Unit × Unit × Unit × Unit) × Unit)) := callF cx k 9 ((a0_0, a0_1, a0_2, a0_3, a0_4, a0_5, a0_6, a0_7, a0_8, ()), (a1_0, a1_1, a1_2, a1_3, a1_4, a1_5, a1_6, a1_7, a1_8, ()), ())
/-! loop.example/jetton/laws.toValue -/
noncomputable def F10 (k : Nat) (a0_0 : Int) (a0_1 : Bool) (a0_2 : Bool) (a0_3 : List Int) (a0_4 : Int) (a0_5 : Int) (a0_6 : Int) (a0_7 : Int) (a0_8 : ByteArray) : Option (((Int × Bool × Bool × (List Int) × Int × Int × Int × Int × ByteArray × Unit) × Unit) × ((Unit × Unit × Unit × Unit × Unit × Unit × Unit × Unit × Unit × Unit) × Unit)) := callF cx k 10 ((a0_0, a0_1, a0_2, a0_3, a0_4, a0_5, a0_6, a0_7, a0_8, ()), ())
/-! loop.example/jetton/impl.ValueCmp -/
noncomputable def F11 (k : Nat) (a0_0 : Int) (a0_1 : Bool) (a0_2 : Bool) (a0_3 : List Int) (a0_4 : Int) (a0_5 : Int) (a0_6 : Int) (a0_7 : Int) (a0_8 : ByteArray) (a1_0 : Int) (a1_1 : Bool) (a1_2 : Bool) (a1_3 : List Int) (a1_4 : Int) (a1_5 : Int) (a1_6 : Int) (a1_7 : Int) (a1_8 : ByteArray) : Option ((Int × Bool × Unit) × ((Unit × Unit × Unit × Unit × Unit × Unit × Unit × Unit × Unit × Unit) × (Unit × Unit × Unit × Unit × Unit × Unit × Unit × Unit × Unit × Unit) × Unit)) := callF cx k 11 ((a0_0, a0_1, a0_2, a0_3, a0_4, a0_5, a0_6, a0_7, a0_8, ()), (a1_0, a1_1, a1_2, a1_3, a1_4, a1_5, a1_6, a1_7, a1_8, ()), ())
/-! loop.example/jetton/laws.eqValue -/
noncomputable def F12 (k : Nat) (a0_0 : Int) (a0_1 : Bool) (a0_2 : Bool) (a0_3 : List Int) (a0_4 : Int) (a0_5 : Int) (a0_6 : Int) (a0_7 : Int) (a0_8 : ByteArray) (a1_0 : Int) (a1_1 : Bool) (a1_2 : Bool) (a1_3 : List Int) (a1_4 : Int) (a1_5 : Int) (a1_6 : Int) (a1_7 : Int) (a1_8 : ByteArray) : Option ((Bool × Unit) × ((Unit × Unit × Unit × Unit × Unit × Unit × Unit × Unit × Unit × Unit) × (Unit × Unit × Unit × Unit × Unit × Unit × Unit × Unit × Unit × Unit) × Unit)) := callF cx k 12 ((a0_0, a0_1, a0_2, a0_3, a0_4, a0_5, a0_6, a0_7, a0_8, ()), (a1_0, a1_1, a1_2, a1_3, a1_4, a1_5, a1_6, a1_7, a1_8, ()), ())
/-! loop.example/jetton/spec.ValueOrder -/
noncomputable def F13 (k : Nat) (a0_0 : Int) (a0_1 : Bool) (a0_2 : Bool) (a0_3 : List Int) (a0_4 : Int) (a0_5 : Int) (a0_6 : Int) (a0_7 : Int) (a0_8 : ByteArray) (a1_0 : Int) (a1_1 : Bool) (a1_2 : Bool) (a1_3 : List Int) (a1_4 : Int) (a1_5 : Int) (a1_6 : Int) (a1_7 : Int) (a1_8 : ByteArray) : Option ((Int × Unit) × ((Unit × Unit × Unit × Unit × Unit × Unit × Unit × Unit × Unit × Unit) × (Unit × Unit × Unit × Unit × Unit × Unit × Unit × Unit × Unit × Unit) × Unit)) := callF cx k 13 ((a0_0, a0_1, a0_2, a0_3, a0_4, a0_5, a0_6, a0_7, a0_8, ()), (a1_0, a1_1, a1_2, a1_3, a1_4, a1_5, a1_6, a1_7, a1_8, ()), ())
/-! loop.example/jetton/impl.ValueOrder -/
noncomputable def F14 (k : Nat) (a0_0 : Int) (a0_1 : Bool) (a0_2 : Bool) (a0_3 : List Int) (a0_4 : Int) (a0_5 : Int) (a0_6 : Int) (a0_7 : Int) (a0_8 : ByteArray) (a1_0 : Int) (a1_1 : Bool) (a1_2 : Bool) (a1_3 : List Int) (a1_4 : Int) (a1_5 : Int) (a1_6 : Int) (a1_7 : Int) (a1_8 : ByteArray) : Option ((Int × Unit) × ((Unit × Unit × Unit × Unit × Unit × Unit × Unit × Unit × Unit × Unit) × (Unit × Unit × Unit × Unit × Unit × Unit × Unit × Unit × Unit × Unit) × Unit)) := callF cx k 14 ((a0_0, a0_1, a0_2, a0_3, a0_4, a0_5, a0_6, a0_7, a0_8, ()), (a1_0, a1_1, a1_2, a1_3, a1_4, a1_5, a1_6, a1_7, a1_8, ()), ())
/-! loop.example/jetton/laws.toIntS -/
noncomputable def F18 (k : Nat) (a0 : List Int) : Option (((List Int) × Unit) × (Unit × Unit)) := callF cx k 18 (a0, ())
noncomputable def F18c3 (k : Nat) (x0 : List Int) (x3 : List Int) (x4 : Int) : Option (((List Int) × Unit) × (Unit × Unit)) := cutF cx 18 3 Tryz.f18 k (x0, x3, x4, ())
/-! loop.example/jetton/laws.eqIntS -/
noncomputable def F22 (k : Nat) (a0 : List Int) (a1 : List Int) : Option ((Bool × Unit) × (Unit × Unit × Unit)) := callF cx k 22 (a0, a1, ())
noncomputable def F22c4 (k : Nat) (x0 : List Int) (x1 : List Int) (x5 : Int) : Option ((Bool × Unit) × (Unit × Unit × Unit)) := cutF cx 22 4 Tryz.f22 k (x0, x1, x5, ())
/-! loop.example/jetton/spec.DrawValueCmp -/
noncomputable def F24 (k : Nat) (a0 : List Int) : Option (((Int × Bool × Bool × (List Int) × Int × Int × Int × Int × ByteArray × Unit) × (Int × Bool × Bool × (List Int) × Int × Int × Int × Int × ByteArray × Unit) × Unit) × (Unit × Unit)) := callF cx k 24 (a0, ())
/-! loop.example/jetton/impl.ValueOk -/
noncomputable def F25 (k : Nat) (a0_0 : Int) (a0_1 : Bool) (a0_2 : Bool) (a0_3 : List Int) (a0_4 : Int) (a0_5 : Int) (a0_6 : Int) (a0_7 : Int) (a0_8 : ByteArray) : Option ((Bool × Unit) × ((Unit × Unit × Unit × Unit × Unit × Unit × Unit × Unit × Unit × Unit) × Unit)) := callF cx k 25 ((a0_0, a0_1, a0_2, a0_3, a0_4, a0_5, a0_6, a0_7, a0_8, ()), ())
noncomputable def F25c21 (k : Nat) (x3_0 : Int) (x3_1 : Bool) (x3_2 : Bool) (x3_3 : List Int) (x3_4 : Int) (x3_5 : Int) (x3_6 : Int) (x3_7 : Int) (x3_8 : ByteArray) (x4 : Bool) : Option ((Bool × Unit) × ((Unit × Unit × Unit × Unit × Unit × Unit × Unit × Unit × Unit × Unit) × Unit)) := cutF cx 25 21 Tryz.f25 k ((x3_0, x3_1, x3_2, x3_3, x3_4, x3_5, x3_6, x3_7, x3_8, ()), x4, ())
noncomputable def F25c17 (k : Nat) (x1_0 : Int) (x1_1 : Bool) (x1_2 : Bool) (x1_3 : List Int) (x1_4 : Int) (x1_5 : Int) (x1_6 : Int) (x1_7 : Int) (x1_8 : ByteArray) (x3_0 : Int) (x3_1 : Bool) (x3_2 : Bool) (x3_3 : List Int) (x3_4 : Int) (x3_5 : Int) (x3_6 : Int) (x3_7 : Int) (x3_8 : ByteArray) (x4 : Bool) (x43 : Int) (x44 : Int) : Option ((Bool × Unit) × ((Unit × Unit × Unit × Unit × Unit × Unit × Unit × Unit × Unit × Unit) × Unit)) := cutF cx 25 17 Tryz.f25 k ((x1_0, x1_1, x1_2, x1_3, x1_4, x1_5, x1_6, x1_7, x1_8, ()), (x3_0, x3_1, x3_2, x3_3, x3_4, x3_5, x3_6, x3_7, x3_8, ()), x4, x43, x44, ())
/-! loop.example/jetton/spec.ValueOk -/
noncomputable def F26 (k : Nat) (a0_0 : Int) (a0_1 : Bool) (a0_2 : Bool) (a0_3 : List Int) (a0_4 : Int) (a0_5 : Int) (a0_6 : Int) (a0_7 : Int) (a0_8 : ByteArray) : Option ((Bool × Unit) × ((Unit × Unit × Unit × Unit × Unit × Unit × Unit × Unit × Unit × Unit) × Unit)) := callF cx k 26 ((a0_0, a0_1, a0_2, a0_3, a0_4, a0_5, a0_6, a0_7, a0_8, ()), ())
/-! loop.example/jetton/spec.DrawValueOrder -/
noncomputable def F27 (k : Nat) (a0 : List Int) : Option (((Int × Bool × Bool × (List Int) × Int × Int × Int × Int × ByteArray × Unit) × (Int × Bool × Bool × (List Int) × Int × Int × Int × Int × ByteArray × Unit) × Unit) × (Unit × Unit)) := callF cx k 27 (a0, ())
/-! loop.example/jetton/laws.szDec -/
noncomputable def F28 (k : Nat) (a0_0 : Bool) (a0_1 : List Int) (a0_2 : Int) (a1 : Int) : Option ((Int × Unit) × ((Unit × Unit × Unit × Unit) × Unit × Unit)) := callF cx k 28 ((a0_0, a0_1, a0_2, ()), a1, ())
/-! loop.example/jetton/spec.l4Ok -/
noncomputable def F29 (k : Nat) (a0_0 : Int) (a0_1 : Bool) (a0_2 : Bool) (a0_3 : List Int) (a0_4 : Int) (a0_5 : Int) (a0_6 : Int) (a0_7 : Int) (a0_8 : ByteArray) : Option ((Bool × Unit) × ((Unit × Unit × Unit × Unit × Unit × Unit × Unit × Unit × Unit × Unit) × Unit)) := callF cx k 29 ((a0_0, a0_1, a0_2, a0_3, a0_4, a0_5, a0_6, a0_7, a0_8, ()), ())
/-! loop.example/jetton/spec.l4Cmp -/
noncomputable def F30 (k : Nat) (a0_0 : Int) (a0_1 : Bool) (a0_2 : Bool) (a0_3 : List Int) (a0_4 : Int) (a0_5 : Int) (a0_6 : Int) (a0_7 : Int) (a0_8 : ByteArray) (a1_0 : Int) (a1_1 : Bool) (a1_2 : Bool) (a1_3 : List Int) (a1_4 : Int) (a1_5 : Int) (a1_6 : Int) (a1_7 : Int) (a1_8 : ByteArray) : Option ((Int × Unit) × ((Unit × Unit × Unit × Unit × Unit × Unit × Unit × Unit × Unit × Unit) × (Unit × Unit × Unit × Unit × Unit × Unit × Unit × Unit × Unit × Unit) × Unit)) := callF cx k 30 ((a0_0, a0_1, a0_2, a0_3, a0_4, a0_5, a0_6, a0_7, a0_8, ()), (a1_0, a1_1, a1_2, a1_3, a1_4, a1_5, a1_6, a1_7, a1_8, ()), ())
/-! loop.example/jetton/laws.toDec -/
noncomputable def F31 (k : Nat) (a0_0 : Bool) (a0_1 : List Int) (a0_2 : Int) : Option (((Bool × (List Int) × Int × Unit) × Unit) × ((Unit × Unit × Unit × Unit) × Unit)) := callF cx k 31 ((a0_0, a0_1, a0_2, ()), ())
/-! loop.example/jetton/laws.toSpan -/
noncomputable def F32 (k : Nat) (a0_0 : Int) (a0_1 : Int) : Option (((Int × Int × Unit) × Unit) × ((Unit × Unit × Unit) × Unit)) := callF cx k 32 ((a0_0, a0_1, ()), ())
/-! (loop.example/jetton/impl.Value).cmp -/
noncomputable def F33 (k : Nat) (a0_0 : Int) (a0_1 : Bool) (a0_2 : Bool) (a0_3 : List Int) (a0_4 : Int) (a0_5 : Int) (a0_6 : Int) (a0_7 : Int) (a0_8 : ByteArray) (a1_0 : Int) (a1_1 : Bool) (a1_2 : Bool) (a1_3 : List Int) (a1_4 : Int) (a1_5 : Int) (a1_6 : Int) (a1_7 : Int) (a1_8 : ByteArray) : Option ((Int × Unit) × ((Unit × Unit × Unit × Unit × Unit × Unit × Unit × Unit × Unit × Unit) × (Unit × Unit × Unit × Unit × Unit × Unit × Unit × Unit × Unit × Unit) × Unit)) := callF cx k 33 ((a0_0, a0_1, a0_2, a0_3, a0_4, a0_5, a0_6, a0_7, a0_8, ()), (a1_0, a1_1, a1_2, a1_3, a1_4, a1_5, a1_6, a1_7, a1_8, ()), ())
/-! loop.example/jetton/laws.eqDec -/
noncomputable def F34 (k : Nat) (a0_0 : Bool) (a0_1 : List Int) (a0_2 : Int) (a1_0 : Bool) (a1_1 : List Int) (a1_2 : Int) : Option ((Bool × Unit) × ((Unit × Unit × Unit × Unit) × (Unit × Unit × Unit × Unit) × Unit)) := callF cx k 34 ((a0_0, a0_1, a0_2, ()), (a1_0, a1_1, a1_2, ()), ())
/-! loop.example/jetton/laws.eqSpan -/
noncomputable def F35 (k : Nat) (a0_0 : Int) (a0_1 : Int) (a1_0 : Int) (a1_1 : Int) : Option ((Bool × Unit) × ((Unit × Unit × Unit) × (Unit × Unit × Unit) × Unit)) := callF cx k 35 ((a0_0, a0_1, ()), (a1_0, a1_1, ()), ())
/-! loop.example/jetton/spec.l4Order -/
noncomputable def F36 (k : Nat) (a0_0 : Int) (a0_1 : Bool) (a0_2 : Bool) (a0_3 : List Int) (a0_4 : Int) (a0_5 : Int) (a0_6 : Int) (a0_7 : Int) (a0_8 : ByteArray) (a1_0 : Int) (a1_1 : Bool) (a1_2 : Bool) (a1_3 : List Int) (a1_4 : Int) (a1_5 : Int) (a1_6 : Int) (a1_7 : Int) (a1_8 : ByteArray) : Option ((Int × Unit) × ((Unit × Unit × Unit × Unit × Unit × Unit × Unit × Unit × Unit × Unit) × (Unit × Unit × Unit × Unit × Unit × Unit × Unit × Unit × Unit × Unit) × Unit)) := callF cx k 36 ((a0_0, a0_1, a0_2, a0_3, a0_4, a0_5, a0_6, a0_7, a0_8, ()), (a1_0, a1_1, a1_2, a1_3, a1_4, a1_5, a1_6, a1_7, a1_8, ()), ())
/-! (loop.example/jetton/impl.Value).order -/
noncomputable def F37 (k : Nat) (a0_0 : Int) (a0_1 : Bool) (a0_2 : Bool) (a0_3 : List Int) (a0_4 : Int) (a0_5 : Int) (a0_6 : Int) (a0_7 : Int) (a0_8 : ByteArray) (a1_0 : Int) (a1_1 : Bool) (a1_2 : Bool) (a1_3 : List Int) (a1_4 : Int) (a1_5 : Int) (a1_6 : Int) (a1_7 : Int) (a1_8 : ByteArray) : Option ((Int × Unit) × ((Unit × Unit × Unit × Unit × Unit × Unit × Unit × Unit × Unit × Unit) × (Unit × Unit × Unit × Unit × Unit × Unit × Unit × Unit × Unit × Unit) × Unit)) := callF cx k 37 ((a0_0, a0_1, a0_2, a0_3, a0_4, a0_5, a0_6, a0_7, a0_8, ()), (a1_0, a1_1, a1_2, a1_3, a1_4, a1_5, a1_6, a1_7, a1_8, ()), ())
/-! loop.example/jetton/impl.in -/
noncomputable def F45 (k : Nat) (a0 : Int) (a1 : Int) (a2 : Int) : Option ((Bool × Unit) × (Unit × Unit × Unit × Unit)) := callF cx k 45 (a0, a1, a2, ())
/-! loop.example/jetton/spec.l1Open -/
noncomputable def F47 (k : Nat) (a0 : List Int) : Option ((((List Int) × Int × Unit) × Unit) × (Unit × Unit)) := callF cx k 47 (a0, ())
noncomputable def F47c3 (k : Nat) (x0 : List Int) : Option ((((List Int) × Int × Unit) × Unit) × (Unit × Unit)) := cutF cx 47 3 Tryz.f47 k (x0, ())
/-! loop.example/jetton/spec.l14AnyValue -/
noncomputable def F48 (k : Nat) (a0_0 : List Int) (a0_1 : Int) : Option (((Int × Bool × Bool × (List Int) × Int × Int × Int × Int × ByteArray × Unit) × Unit) × (((List Int) × Int × Unit) × Unit)) := callF cx k 48 ((a0_0, a0_1, ()), ())
noncomputable def F48c15 (k : Nat) (x0_0 : List Int) (x0_1 : Int) (x2_0 : Int) (x2_1 : Bool) (x2_2 : Bool) (x2_3 : List Int) (x2_4 : Int) (x2_5 : Int) (x2_6 : Int) (x2_7 : Int) (x2_8 : ByteArray) (x3_0 : Int) (x3_1 : Bool) (x3_2 : Bool) (x3_3 : List Int) (x3_4 : Int) (x3_5 : Int) (x3_6 : Int) (x3_7 : Int) (x3_8 : ByteArray) : Option (((Int × Bool × Bool × (List Int) × Int × Int × Int × Int × ByteArray × Unit) × Unit) × (((List Int) × Int × Unit) × Unit)) := cutF cx 48 15 Tryz.f48 k ((x0_0, x0_1, ()), (x2_0, x2_1, x2_2, x2_3, x2_4, x2_5, x2_6, x2_7, x2_8, ()), (x3_0, x3_1, x3_2, x3_3, x3_4, x3_5, x3_6, x3_7, x3_8, ()), ())
/-! (*loop.example/jetton/spec.l1Rd).pick -/
noncomputable def F49 (k : Nat) (a0_0 : List Int) (a0_1 : Int) (a1 : Int) : Option ((Int × Unit) × (((List Int) × Int × Unit) × Unit × Unit)) := callF cx k 49 ((a0_0, a0_1, ()), a1, ())
/-! loop.example/jetton/spec.l14ValueOf -/
noncomputable def F50 (k : Nat) (a0_0 : List Int) (a0_1 : Int) (a1 : Int) : Option (((Int × Bool × Bool × (List Int) × Int × Int × Int × Int × ByteArray × Unit) × Unit) × (((List Int) × Int × Unit) × Unit × Unit)) := callF cx k 50 ((a0_0, a0_1, ()), a1, ())
/-! loop.example/jetton/impl.DecOk -/
noncomputable def F51 (k : Nat) (a0_0 : Bool) (a0_1 : List Int) (a0_2 : Int) : Option ((Bool × Unit) × ((Unit × Unit × Unit × Unit) × Unit)) := callF cx k 51 ((a0_0, a0_1, a0_2, ()), ())
/-! loop.example/jetton/impl.isDay -/
noncomputable def F52 (k : Nat) (a0 : Int) : Option ((Bool × Unit) × (Unit × Unit)) := callF cx k 52 (a0, ())
/-! loop.example/jetton/impl.SpanOk -/
noncomputable def F53 (k : Nat) (a0_0 : Int) (a0_1 : Int) : Option ((Bool × Unit) × ((Unit × Unit × Unit) × Unit)) := callF cx k 53 ((a0_0, a0_1, ()), ())
/-! (loop.example/jetton/impl.Dec).zero -/
noncomputable def F54 (k : Nat) (a0_0 : Bool) (a0_1 : List Int) (a0_2 : Int) : Option ((Bool × Unit) × ((Unit × Unit × Unit × Unit) × Unit)) := callF cx k 54 ((a0_0, a0_1, a0_2, ()), ())
/-! loop.example/jetton/laws.szBig -/
noncomputable def F55 (k : Nat) (a0_0 : Bool) (a0_1 : List Int) (a1 : Int) : Option ((Int × Unit) × ((Unit × Unit × Unit) × Unit × Unit)) := callF cx k 55 ((a0_0, a0_1, ()), a1, ())
/-! loop.example/jetton/spec.l1In -/
noncomputable def F56 (k : Nat) (a0 : Int) (a1 : Int) (a2 : Int) : Option ((Bool × Unit) × (Unit × Unit × Unit × Unit)) := callF cx k 56 (a0, a1, a2, ())
/-! loop.example/jetton/spec.l4Bare -/
noncomputable def F57 (k : Nat) (a0_0 : Int) (a0_1 : Bool) (a0_2 : Bool) (a0_3 : List Int) (a0_4 : Int) (a0_5 : Int) (a0_6 : Int) (a0_7 : Int) (a0_8 : ByteArray) : Option ((Bool × Unit) × ((Unit × Unit × Unit × Unit × Unit × Unit × Unit × Unit × Unit × Unit) × Unit)) := callF cx k 57 ((a0_0, a0_1, a0_2, a0_3, a0_4, a0_5, a0_6, a0_7, a0_8, ()), ())
/-! loop.example/jetton/spec.l2Ok -/
noncomputable def F58 (k : Nat) (a0_0 : Bool) (a0_1 : List Int) (a0_2 : Int) : Option ((Bool × Unit) × ((Unit × Unit × Unit × Unit) × Unit)) := callF cx k 58 ((a0_0, a0_1, a0_2, ()), ())
/-! loop.example/jetton/spec.l3Is -/
noncomputable def F59 (k : Nat) (a0 : Int) : Option ((Bool × Unit) × (Unit × Unit)) := callF cx k 59 (a0, ())
/-! loop.example/jetton/spec.l3SpanOk -/
noncomputable def F60 (k : Nat) (a0_0 : Int) (a0_1 : Int) : Option ((Bool × Unit) × ((Unit × Unit × Unit) × Unit)) := callF cx k 60 ((a0_0, a0_1, ()), ())
/-! loop.example/jetton/spec.l4Text -/
noncomputable def F61 (k : Nat) (a0 : ByteArray) : Option ((Bool × Unit) × (Unit × Unit)) := callF cx k 61 (a0, ())
noncomputable def F61c2 (k : Nat) (x0 : ByteArray) (x3 : Int) : Option ((Bool × Unit) × (Unit × Unit)) := cutF cx 61 2 Tryz.f61 k (x0, x3, ())
/-! loop.example/jetton/spec.l4Int -/
noncomputable def F62 (k : Nat) (a0 : Int) (a1 : Int) : Option ((Int × Unit) × (Unit × Unit × Unit)) := callF cx k 62 (a0, a1, ())
/-! loop.example/jetton/spec.l4Bit -/
noncomputable def F63 (k : Nat) (a0 : Bool) : Option ((Int × Unit) × (Unit × Unit)) := callF cx k 63 (a0, ())
/-! loop.example/jetton/spec.l2Cmp -/
noncomputable def F64 (k : Nat) (a0_0 : Bool) (a0_1 : List Int) (a0_2 : Int) (a1_0 : Bool) (a1_1 : List Int) (a1_2 : Int) : Option ((Int × Unit) × ((Unit × Unit × Unit × Unit) × (Unit × Unit × Unit × Unit) × Unit)) := callF cx k 64 ((a0_0, a0_1, a0_2, ()), (a1_0, a1_1, a1_2, ()), ())
/-! loop.example/jetton/spec.l4Str -/
noncomputable def F65 (k : Nat) (a0 : ByteArray) (a1 : ByteArray) : Option ((Int × Unit) × (Unit × Unit × Unit)) := callF cx k 65 (a0, a1, ())
/-! loop.example/jetton/laws.toBig -/
noncomputable def F66 (k : Nat) (a0_0 : Bool) (a0_1 : List Int) : Option (((Bool × (List Int) × Unit) × Unit) × ((Unit × Unit × Unit) × Unit)) := callF cx k 66 ((a0_0, a0_1, ()), ())
/-! loop.example/jetton/impl.truth -/
noncomputable def F67 (k : Nat) (a0 : Bool) : Option ((Int × Unit) × (Unit × Unit)) := callF cx k 67 (a0, ())
/-! (loop.example/jetton/impl.Dec).cmp -/
noncomputable def F68 (k : Nat) (a0_0 : Bool) (a0_1 : List Int) (a0_2 : Int) (a1_0 : Bool) (a1_1 : List Int) (a1_2 : Int) : Option ((Int × Unit) × ((Unit × Unit × Unit × Unit) × (Unit × Unit × Unit × Unit) × Unit)) := callF cx k 68 ((a0_0, a0_1, a0_2, ()), (a1_0, a1_1, a1_2, ()), ())
/-! cmp.Compare[int] -/
noncomputable def F69 (k : Nat) (a0 : Int) (a1 : Int) : Option ((Int × Unit) × (Unit × Unit × Unit)) := callF cx k 69 (a0, a1, ())
/-! cmp.Or[int] -/
noncomputable def F70 (k : Nat) (a0 : List Int) : Option ((Int × Unit) × (Unit × Unit)) := callF cx k 70 (a0, ())
noncomputable def F70c3 (k : Nat) (x3 : Int) (x6 : List Int) (x7 : Int) (x8 : Int) : Option ((Int × Unit) × (Unit × Unit)) := cutF cx 70 3 Tryz.f70 k (x3, x6, x7, x8, ())
/-! strings.Compare -/
noncomputable def F71 (k : Nat) (a0 : ByteArray) (a1 : ByteArray) : Option ((Int × Unit) × (Unit × Unit × Unit)) := callF cx k 71 (a0, a1, ())
/-! loop.example/jetton/laws.eqBig -/
noncomputable def F72 (k : Nat) (a0_0 : Bool) (a0_1 : List Int) (a1_0 : Bool) (a1_1 : List Int) : Option ((Bool × Unit) × ((Unit × Unit × Unit) × (Unit × Unit × Unit) × Unit)) := callF cx k 72 ((a0_0, a0_1, ()), (a1_0, a1_1, ()), ())
/-! loop.example/jetton/spec.l14Value -/
noncomputable def F75 (k : Nat) (a0_0 : List Int) (a0_1 : Int) : Option (((Int × Bool × Bool × (List Int) × Int × Int × Int × Int × ByteArray × Unit) × Unit) × (((List Int) × Int × Unit) × Unit)) := callF cx k 75 ((a0_0, a0_1, ()), ())
/-! (*loop.example/jetton/spec.l1Rd).one -/
noncomputable def F76 (k : Nat) (a0_0 : List Int) (a0_1 : Int) (a1 : List Int) : Option ((Int × Unit) × (((List Int) × Int × Unit) × Unit × Unit)) := callF cx k 76 ((a0_0, a0_1, ()), a1, ())
/-! (*loop.example/jetton/spec.l1Rd).of -/
noncomputable def F77 (k : Nat) (a0_0 : List Int) (a0_1 : Int) (a1 : List ByteArray) : Option ((ByteArray × Unit) × (((List Int) × Int × Unit) × Unit × Unit)) := callF cx k 77 ((a0_0, a0_1, ()), a1, ())
/-! loop.example/jetton/spec.l14AnyDec -/
noncomputable def F78 (k : Nat) (a0_0 : List Int) (a0_1 : Int) : Option (((Bool × (List Int) × Int × Unit) × Unit) × (((List Int) × Int × Unit) × Unit)) := callF cx k 78 ((a0_0, a0_1, ()), ())
noncomputable def F78c9 (k : Nat) (x0_0 : List Int) (x0_1 : Int) (x2_0 : Bool) (x2_1 : List Int) (x2_2 : Int) (x3_0 : Bool) (x3_1 : List Int) (x3_2 : Int) : Option (((Bool × (List Int) × Int × Unit) × Unit) × (((List Int) × Int × Unit) × Unit)) := cutF cx 78 9 Tryz.f78 k ((x0_0, x0_1, ()), (x2_0, x2_1, x2_2, ()), (x3_0, x3_1, x3_2, ()), ())
/-! loop.example/jetton/spec.l14AnyDay -/
noncomputable def F79 (k : Nat) (a0_0 : List Int) (a0_1 : Int) : Option ((Int × Unit) × (((List Int) × Int × Unit) × Unit)) := callF cx k 79 ((a0_0, a0_1, ()), ())
/-! loop.example/jetton/spec.l14AnySpan -/
noncomputable def F80 (k : Nat) (a0_0 : List Int) (a0_1 : Int) : Option (((Int × Int × Unit) × Unit) × (((List Int) × Int × Unit) × Unit)) := callF cx k 80 ((a0_0, a0_1, ()), ())
noncomputable def F80c4 (k : Nat) (x0_0 : List Int) (x0_1 : Int) (x2_0 : Int) (x2_1 : Int) (x3_0 : Int) (x3_1 : Int) : Option (((Int × Int × Unit) × Unit) × (((List Int) × Int × Unit) × Unit)) := cutF cx 80 4 Tryz.f80 k ((x0_0, x0_1, ()), (x2_0, x2_1, ()), (x3_0, x3_1, ()), ())
noncomputable def F80c6 (k : Nat) (x0_0 : List Int) (x0_1 : Int) (x2_0 : Int) (x2_1 : Int) (x3_0 : Int) (x3_1 : Int) : Option (((Int × Int × Unit) × Unit) × (((List Int) × Int × Unit) × Unit)) := cutF cx 80 6 Tryz.f80 k ((x0_0, x0_1, ()), (x2_0, x2_1, ()), (x3_0, x3_1, ()), ())
/-! loop.example/jetton/spec.l11Bool -/
noncomputable def F81 (k : Nat) (a0 : Bool) : Option (((Int × Bool × Bool × (List Int) × Int × Int × Int × Int × ByteArray × Unit) × Unit) × (Unit × Unit)) := callF cx k 81 (a0, ())
/-! loop.example/jetton/spec.l4Num -/
noncomputable def F82 (k : Nat) (a0_0 : Bool) (a0_1 : List Int) (a0_2 : Int) : Option (((Int × Bool × Bool × (List Int) × Int × Int × Int × Int × ByteArray × Unit) × Unit) × ((Unit × Unit × Unit × Unit) × Unit)) := callF cx k 82 ((a0_0, a0_1, a0_2, ()), ())
/-! loop.example/jetton/spec.l14Dec -/
noncomputable def F83 (k : Nat) (a0_0 : List Int) (a0_1 : Int) : Option (((Bool × (List Int) × Int × Unit) × Unit) × (((List Int) × Int × Unit) × Unit)) := callF cx k 83 ((a0_0, a0_1, ()), ())
/-! loop.example/jetton/spec.l14Day -/
noncomputable def F84 (k : Nat) (a0_0 : List Int) (a0_1 : Int) : Option ((Int × Unit) × (((List Int) × Int × Unit) × Unit)) := callF cx k 84 ((a0_0, a0_1, ()), ())
/-! loop.example/jetton/spec.l14Span -/
noncomputable def F85 (k : Nat) (a0_0 : List Int) (a0_1 : Int) : Option (((Int × Int × Unit) × Unit) × (((List Int) × Int × Unit) × Unit)) := callF cx k 85 ((a0_0, a0_1, ()), ())
/-! loop.example/jetton/spec.l14Word -/
noncomputable def F86 (k : Nat) (a0_0 : List Int) (a0_1 : Int) : Option ((ByteArray × Unit) × (((List Int) × Int × Unit) × Unit)) := callF cx k 86 ((a0_0, a0_1, ()), ())
/-! loop.example/jetton/impl.BigOk -/
noncomputable def F87 (k : Nat) (a0_0 : Bool) (a0_1 : List Int) : Option ((Bool × Unit) × ((Unit × Unit × Unit) × Unit)) := callF cx k 87 ((a0_0, a0_1, ()), ())
/-! (loop.example/jetton/impl.limbs).digits -/
noncomputable def F88 (k : Nat) (a0 : List Int) : Option ((Int × Unit) × (Unit × Unit)) := callF cx k 88 (a0, ())
/-! loop.example/jetton/laws.szIntS -/
noncomputable def F89 (k : Nat) (a0 : List Int) (a1 : Int) : Option ((Int × Unit) × (Unit × Unit × Unit)) := callF cx k 89 (a0, a1, ())
/-! loop.example/jetton/spec.l4Zero -/
noncomputable def F90 (k : Nat) (a0_0 : Bool) (a0_1 : List Int) (a0_2 : Int) : Option ((Bool × Unit) × ((Unit × Unit × Unit × Unit) × Unit)) := callF cx k 90 ((a0_0, a0_1, a0_2, ()), ())
/-! loop.example/jetton/spec.l1Ok -/
noncomputable def F91 (k : Nat) (a0_0 : Bool) (a0_1 : List Int) : Option ((Bool × Unit) × ((Unit × Unit × Unit) × Unit)) := callF cx k 91 ((a0_0, a0_1, ()), ())
noncomputable def F91c4 (k : Nat) (x1_0 : Bool) (x1_1 : List Int) (x3 : Int) : Option ((Bool × Unit) × ((Unit × Unit × Unit) × Unit)) := cutF cx 91 4 Tryz.f91 k ((x1_0, x1_1, ()), x3, ())
/-! loop.example/jetton/spec.l1Long -/
noncomputable def F92 (k : Nat) (a0 : List Int) : Option ((Int × Unit) × (Unit × Unit)) := callF cx k 92 (a0, ())
/-! loop.example/jetton/spec.l2Greater -/
noncomputable def F93 (k : Nat) (a0 : Int) (a1 : Int) : Option ((Int × Unit) × (Unit × Unit × Unit)) := callF cx k 93 (a0, a1, ())
/-! loop.example/jetton/spec.l2At -/
noncomputable def F94 (k : Nat) (a0_0 : Bool) (a0_1 : List Int) (a0_2 : Int) (a1 : Int) : Option (((List Int) × Unit) × ((Unit × Unit × Unit × Unit) × Unit × Unit)) := callF cx k 94 ((a0_0, a0_1, a0_2, ()), a1, ())
/-! loop.example/jetton/spec.l1Cmp -/
noncomputable def F95 (k : Nat) (a0_0 : Bool) (a0_1 : List Int) (a1_0 : Bool) (a1_1 : List Int) : Option ((Int × Unit) × ((Unit × Unit × Unit) × (Unit × Unit × Unit) × Unit)) := callF cx k 95 ((a0_0, a0_1, ()), (a1_0, a1_1, ()), ())
/-! (loop.example/jetton/impl.Dec).at -/
noncomputable def F96 (k : Nat) (a0_0 : Bool) (a0_1 : List Int) (a0_2 : Int) (a1 : Int) : Option (((Bool × (List Int) × Unit) × Unit) × ((Unit × Unit × Unit × Unit) × Unit × Unit)) := callF cx k 96 ((a0_0, a0_1, a0_2, ()), a1, ())
/-! (loop.example/jetton/impl.signed).add -/
noncomputable def F97 (k : Nat) (a0_0 : Bool) (a0_1 : List Int) (a1_0 : Bool) (a1_1 : List Int) : Option (((Bool × (List Int) × Unit) × Unit) × ((Unit × Unit × Unit) × (Unit × Unit × Unit) × Unit)) := callF cx k 97 ((a0_0, a0_1, ()), (a1_0, a1_1, ()), ())
/-! (loop.example/jetton/impl.signed).minus -/
noncomputable def F98 (k : Nat) (a0_0 : Bool) (a0_1 : List Int) : Option (((Bool × (List Int) × Unit) × Unit) × ((Unit × Unit × Unit) × Unit)) := callF cx k 98 ((a0_0, a0_1, ()), ())
/-! (loop.example/jetton/impl.signed).sign -/
noncomputable def F99 (k : Nat) (a0_0 : Bool) (a0_1 : List Int) : Option ((Int × Unit) × ((Unit × Unit × Unit) × Unit)) := callF cx k 99 ((a0_0, a0_1, ()), ())
/-! cmp.isNaN[int] -/
noncomputable def F100 (k : Nat) (a0 : Int) : Option ((Bool × Unit) × (Unit × Unit)) := callF cx k 100 (a0, ())
/-! loop.example/jetton/spec.l14Big -/
noncomputable def F102 (k : Nat) (a0_0 : List Int) (a0_1 : Int) (a1 : Int) : Option (((Bool × (List Int) × Unit) × Unit) × (((List Int) × Int × Unit) × Unit × Unit)) := callF cx k 102 ((a0_0, a0_1, ()), a1, ())
noncomputable def F102c4 (k : Nat) (x0_0 : List Int) (x0_1 : Int) (x4_0 : Bool) (x4_1 : List Int) (x5 : Int) : Option (((Bool × (List Int) × Unit) × Unit) × (((List Int) × Int × Unit) × Unit × Unit)) := cutF cx 102 4 Tryz.f102 k ((x0_0, x0_1, ()), (x4_0, x4_1, ()), x5, ())
noncomputable def F102c7 (k : Nat) (x0_0 : List Int) (x0_1 : Int) (x4_0 : Bool) (x4_1 : List Int) (x5 : Int) (x6 : ByteArray) : Option (((Bool × (List Int) × Unit) × Unit) × (((List Int) × Int × Unit) × Unit × Unit)) := cutF cx 102 7 Tryz.f102 k ((x0_0, x0_1, ()), (x4_0, x4_1, ()), x5, x6, ())
noncomputable def F102c9 (k : Nat) (x0_0 : List Int) (x0_1 : Int) (x4_0 : Bool) (x4_1 : List Int) (x6 : ByteArray) : Option (((Bool × (List Int) × Unit) × Unit) × (((List Int) × Int × Unit) × Unit × Unit)) := cutF cx 102 9 Tryz.f102 k ((x0_0, x0_1, ()), (x4_0, x4_1, ()), x6, ())
/-! loop.example/jetton/spec.l14AnyBig -/
noncomputable def F103 (k : Nat) (a0_0 : List Int) (a0_1 : Int) : Option (((Bool × (List Int) × Unit) × Unit) × (((List Int) × Int × Unit) × Unit)) := callF cx k 103 ((a0_0, a0_1, ()), ())
noncomputable def F103c12 (k : Nat) (x0_0 : List Int) (x0_1 : Int) (x2_0 : Bool) (x2_1 : List Int) (x3_0 : Bool) (x3_1 : List Int) : Option (((Bool × (List Int) × Unit) × Unit) × (((List Int) × Int × Unit) × Unit)) := cutF cx 103 12 Tryz.f103 k ((x0_0, x0_1, ()), (x2_0, x2_1, ()), (x3_0, x3_1, ()), ())
noncomputable def F103c10 (k : Nat) (x0_0 : List Int) (x0_1 : Int) (x2_0 : Bool) (x2_1 : List Int) (x3_0 : Bool) (x3_1 : List Int) : Option (((Bool × (List Int) × Unit) × Unit) × (((List Int) × Int × Unit) × Unit)) := cutF cx 103 10 Tryz.f103 k ((x0_0, x0_1, ()), (x2_0, x2_1, ()), (x3_0, x3_1, ()), ())
/-! loop.example/jetton/spec.BigOf -/
noncomputable def F104 (k : Nat) (a0 : Int) : Option (((Bool × (List Int) × Unit) × Unit) × (Unit × Unit)) := callF cx k 104 (a0, ())
noncomputable def F104c3 (k : Nat) (x0 : Int) (x2_0 : Bool) (x2_1 : List Int) (x3 : List Int) (x4 : Int) : Option (((Bool × (List Int) × Unit) × Unit) × (Unit × Unit)) := cutF cx 104 3 Tryz.f104 k (x0, (x2_0, x2_1, ()), x3, x4, ())
noncomputable def F104c7 (k : Nat) (x0 : Int) (x2_0 : Bool) (x2_1 : List Int) (x3 : List Int) (x4 : Int) (x5 : Int) : Option (((Bool × (List Int) × Unit) × Unit) × (Unit × Unit)) := cutF cx 104 7 Tryz.f104 k (x0, (x2_0, x2_1, ()), x3, x4, x5, ())
/-! loop.example/jetton/spec.l3Of -/
noncomputable def F105 (k : Nat) (a0 : Int) (a1 : Int) (a2 : Int) : Option ((Int × Unit) × (Unit × Unit × Unit × Unit)) := callF cx k 105 (a0, a1, a2, ())
noncomputable def F105c3 (k : Nat) (x0 : Int) (x1 : Int) (x7 : Int) (x8 : Int) : Option ((Int × Unit) × (Unit × Unit × Unit × Unit)) := cutF cx 105 3 Tryz.f105 k (x0, x1, x7, x8, ())
/-! loop.example/jetton/impl.BigOk$1 -/
noncomputable def F106 (k : Nat) (a0 : Int) : Option ((Bool × Unit) × (Unit × Unit)) := callF cx k 106 (a0, ())
/-! (loop.example/jetton/impl.limbs).text -/
noncomputable def F107 (k : Nat) (a0 : List Int) : Option ((ByteArray × Unit) × (Unit × Unit)) := callF cx k 107 (a0, ())
/-! loop.example/jetton/spec.l1Figures -/
noncomputable def F108 (k : Nat) (a0 : List Int) : Option ((ByteArray × Unit) × (Unit × Unit)) := callF cx k 108 (a0, ())
noncomputable def F108c5 (k : Nat) (x0 : List Int) (x3 : ByteArray) (x4 : Int) : Option ((ByteArray × Unit) × (Unit × Unit)) := cutF cx 108 5 Tryz.f108 k (x0, x3, x4, ())
/-! loop.example/jetton/spec.l1MulAbs -/
noncomputable def F109 (k : Nat) (a0 : List Int) (a1 : List Int) : Option (((List Int) × Unit) × (Unit × Unit × Unit)) := callF cx k 109 (a0, a1, ())
noncomputable def F109c3 (k : Nat) (x0 : List Int) (x1 : List Int) (x5 : List Int) (x6 : Int) : Option (((List Int) × Unit) × (Unit × Unit × Unit)) := cutF cx 109 3 Tryz.f109 k (x0, x1, x5, x6, ())
noncomputable def F109c7 (k : Nat) (x0 : List Int) (x1 : List Int) (x5 : List Int) (x6 : Int) (x7 : Int) (x8 : Int) : Option (((List Int) × Unit) × (Unit × Unit × Unit)) := cutF cx 109 7 Tryz.f109 k (x0, x1, x5, x6, x7, x8, ())
/-! loop.example/jetton/spec.l1TenAbs -/
noncomputable def F110 (k : Nat) (a0 : Int) : Option (((List Int) × Unit) × (Unit × Unit)) := callF cx k 110 (a0, ())
noncomputable def F110c2 (k : Nat) (x0 : Int) (x3 : List Int) : Option (((List Int) × Unit) × (Unit × Unit)) := cutF cx 110 2 Tryz.f110 k (x0, x3, ())
noncomputable def F110c6 (k : Nat) (x0 : Int) (x3 : List Int) (x4 : Int) : Option (((List Int) × Unit) × (Unit × Unit)) := cutF cx 110 6 Tryz.f110 k (x0, x3, x4, ())
/-! loop.example/jetton/spec.l1CmpAbs -/
noncomputable def F111 (k : Nat) (a0 : List Int) (a1 : List Int) : Option ((Int × Unit) × (Unit × Unit × Unit)) := callF cx k 111 (a0, a1, ())
noncomputable def F111c6 (k : Nat) (x0 : List Int) (x1 : List Int) (x5 : Int) : Option ((Int × Unit) × (Unit × Unit × Unit)) := cutF cx 111 6 Tryz.f111 k (x0, x1, x5, ())
/-! (loop.example/jetton/impl.Big).signed -/
noncomputable def F112 (k : Nat) (a0_0 : Bool) (a0_1 : List Int) : Option (((Bool × (List Int) × Unit) × Unit) × ((Unit × Unit × Unit) × Unit)) := callF cx k 112 ((a0_0, a0_1, ()), ())
/-! (loop.example/jetton/impl.limbs).mul -/
noncomputable def F113 (k : Nat) (a0 : List Int) (a1 : List Int) : Option (((List Int) × Unit) × (Unit × Unit × Unit)) := callF cx k 113 (a0, a1, ())
noncomputable def F113c3 (k : Nat) (x1 : List Int) (x5 : List Int) (x19 : List Int) (x20 : Int) (x21 : Int) : Option (((List Int) × Unit) × (Unit × Unit × Unit)) := cutF cx 113 3 Tryz.f113 k (x1, x5, x19, x20, x21, ())
noncomputable def F113c7 (k : Nat) (x1 : List Int) (x5 : List Int) (x6 : Int) (x7 : Int) (x8 : Int) (x19 : List Int) (x20 : Int) (x21 : Int) (x26 : List Int) (x27 : Int) (x28 : Int) : Option (((List Int) × Unit) × (Unit × Unit × Unit)) := cutF cx 113 7 Tryz.f113 k (x1, x5, x6, x7, x8, x19, x20, x21, x26, x27, x28, ())
/-! loop.example/jetton/impl.ten -/
noncomputable def F114 (k : Nat) (a0 : Int) : Option (((List Int) × Unit) × (Unit × Unit)) := callF cx k 114 (a0, ())
noncomputable def F114c3 (k : Nat) (x3 : List Int) (x5 : Int) (x6 : Int) : Option (((List Int) × Unit) × (Unit × Unit)) := cutF cx 114 3 Tryz.f114 k (x3, x5, x6, ())
/-! (loop.example/jetton/impl.limbs).add -/
noncomputable def F115 (k : Nat) (a0 : List Int) (a1 : List Int) : Option (((List Int) × Unit) × (Unit × Unit × Unit)) := callF cx k 115 (a0, a1, ())
noncomputable def F115c4 (k : Nat) (x5 : List Int) (x19 : List Int) (x20 : Int) (x21 : Int) : Option (((List Int) × Unit) × (Unit × Unit × Unit)) := cutF cx 115 4 Tryz.f115 k (x5, x19, x20, x21, ())
noncomputable def F115c9 (k : Nat) (x5 : List Int) (x36 : Int) (x37 : Int) : Option (((List Int) × Unit) × (Unit × Unit × Unit)) := cutF cx 115 9 Tryz.f115 k (x5, x36, x37, ())
/-! (loop.example/jetton/impl.limbs).cmp -/
noncomputable def F116 (k : Nat) (a0 : List Int) (a1 : List Int) : Option ((Int × Unit) × (Unit × Unit × Unit)) := callF cx k 116 (a0, a1, ())
noncomputable def F116c4 (k : Nat) (x0 : List Int) (x1 : List Int) (x5 : Int) : Option ((Int × Unit) × (Unit × Unit × Unit)) := cutF cx 116 4 Tryz.f116 k (x0, x1, x5, ())
/-! (loop.example/jetton/impl.limbs).sub -/
noncomputable def F117 (k : Nat) (a0 : List Int) (a1 : List Int) : Option (((List Int) × Unit) × (Unit × Unit × Unit)) := callF cx k 117 (a0, a1, ())
noncomputable def F117c3 (k : Nat) (x5 : List Int) (x11 : List Int) (x12 : Int) (x13 : Int) : Option (((List Int) × Unit) × (Unit × Unit × Unit)) := cutF cx 117 3 Tryz.f117 k (x5, x11, x12, x13, ())
noncomputable def F117c8 (k : Nat) (x5 : List Int) (x27 : Int) (x28 : Int) : Option (((List Int) × Unit) × (Unit × Unit × Unit)) := cutF cx 117 8 Tryz.f117 k (x5, x27, x28, ())
noncomputable def F117c13 (k : Nat) (x5 : List Int) (x27 : Int) (x28 : Int) : Option (((List Int) × Unit) × (Unit × Unit × Unit)) := cutF cx 117 13 Tryz.f117 k (x5, x27, x28, ())
/-! loop.example/jetton/spec.l14Figs -/
noncomputable def F119 (k : Nat) (a0_0 : List Int) (a0_1 : Int) (a1 : Int) : Option ((ByteArray × Unit) × (((List Int) × Int × Unit) × Unit × Unit)) := callF cx k 119 ((a0_0, a0_1, ()), a1, ())
noncomputable def F119c4 (k : Nat) (x0_0 : List Int) (x0_1 : Int) (x1 : Int) (x5 : ByteArray) : Option ((ByteArray × Unit) × (((List Int) × Int × Unit) × Unit × Unit)) := cutF cx 119 4 Tryz.f119 k ((x0_0, x0_1, ()), x1, x5, ())
/-! loop.example/jetton/spec.l1Many -/
noncomputable def F120 (k : Nat) (a0 : ByteArray) (a1 : Int) : Option ((ByteArray × Unit) × (Unit × Unit × Unit)) := callF cx k 120 (a0, a1, ())
noncomputable def F120c2 (k : Nat) (x0 : ByteArray) (x1 : Int) (x5 : ByteArray) : Option ((ByteArray × Unit) × (Unit × Unit × Unit)) := cutF cx 120 2 Tryz.f120 k (x0, x1, x5, ())
/-! loop.example/jetton/spec.l1Big -/
noncomputable def F121 (k : Nat) (a0 : Bool) (a1 : List Int) : Option (((Bool × (List Int) × Unit) × Bool × Unit) × (Unit × Unit × Unit)) := callF cx k 121 (a0, a1, ())
/-! loop.example/jetton/spec.l1FromFigures -/
noncomputable def F122 (k : Nat) (a0 : ByteArray) : Option (((List Int) × Unit) × (Unit × Unit)) := callF cx k 122 (a0, ())
noncomputable def F122c2 (k : Nat) (x0 : ByteArray) (x3 : List Int) : Option (((List Int) × Unit) × (Unit × Unit)) := cutF cx 122 2 Tryz.f122 k (x0, x3, ())
noncomputable def F122c6 (k : Nat) (x0 : ByteArray) (x3 : List Int) (x4 : Int) : Option (((List Int) × Unit) × (Unit × Unit)) := cutF cx 122 6 Tryz.f122 k (x0, x3, x4, ())
noncomputable def F122c8 (k : Nat) (x0 : ByteArray) (x3 : List Int) (x4 : Int) (x5 : Int) (x6 : Int) : Option (((List Int) × Unit) × (Unit × Unit)) := cutF cx 122 8 Tryz.f122 k (x0, x3, x4, x5, x6, ())
/-! loop.example/jetton/spec.l3Before -/
noncomputable def F123 (k : Nat) (a0 : Int) : Option ((Int × Unit) × (Unit × Unit)) := callF cx k 123 (a0, ())
/-! loop.example/jetton/spec.l3Last -/
noncomputable def F124 (k : Nat) (a0 : Int) (a1 : Int) : Option ((Int × Unit) × (Unit × Unit × Unit)) := callF cx k 124 (a0, a1, ())
noncomputable def F124c11 (k : Nat) : Option ((Int × Unit) × (Unit × Unit × Unit)) := cutF cx 124 11 Tryz.f124 k ()
/-! loop.example/jetton/spec.l1Dec -/
noncomputable def F130 (k : Nat) (a0 : Int) : Option ((ByteArray × Unit) × (Unit × Unit)) := callF cx k 130 (a0, ())
/-! loop.example/jetton/spec.l1Wide -/
noncomputable def F131 (k : Nat) (a0 : Int) (a1 : Int) : Option ((ByteArray × Unit) × (Unit × Unit × Unit)) := callF cx k 131 (a0, a1, ())
noncomputable def F131c2 (k : Nat) (x1 : Int) (x5 : ByteArray) : Option ((ByteArray × Unit) × (Unit × Unit × Unit)) := cutF cx 131 2 Tryz.f131 k (x1, x5, ())
/-! loop.example/jetton/spec.l1Limb -/
noncomputable def F132 (k : Nat) (a0 : List Int) (a1 : Int) : Option ((Int × Unit) × (Unit × Unit × Unit)) := callF cx k 132 (a0, a1, ())
/-! loop.example/jetton/spec.l1Trim -/
noncomputable def F133 (k : Nat) (a0 : List Int) : Option (((List Int) × Unit) × (Unit × Unit)) := callF cx k 133 (a0, ())
noncomputable def F133c2 (k : Nat) (x0 : List Int) (x3 : Int) : Option (((List Int) × Unit) × (Unit × Unit)) := cutF cx 133 2 Tryz.f133 k (x0, x3, ())
/-! (loop.example/jetton/impl.limbs).trim -/
noncomputable def F134 (k : Nat) (a0 : List Int) : Option (((List Int) × Unit) × (Unit × Unit)) := callF cx k 134 (a0, ())
noncomputable def F134c1 (k : Nat) (x0 : List Int) : Option (((List Int) × Unit) × (Unit × Unit)) := cutF cx 134 1 Tryz.f134 k (x0, ())
/-! slices.Clone[loop.example/jetton/impl.limbs,int] -/
noncomputable def F135 (k : Nat) (a0 : List Int) : Option (((List Int) × Unit) × (Unit × Unit)) := callF cx k 135 (a0, ())
/-! loop.example/jetton/spec.l3Leap -/
noncomputable def F136 (k : Nat) (a0 : Int) : Option ((Bool × Unit) × (Unit × Unit)) := callF cx k 136 (a0, ())
/-! slices.ContainsFunc[[]int,int] -/
noncomputable def F107043 (k : Nat) (a0 : List Int) : Option ((Bool × Unit) × (Unit × Unit × Unit)) := callF cx k 107043 (a0, (()), ())
/-! slices.IndexFunc[[]int,int] -/
noncomputable def F107074 (k : Nat) (a0 : List Int) : Option ((Int × Unit) × (Unit × Unit × Unit)) := callF cx k 107074 (a0, (()), ())
noncomputable def F107074c2 (k : Nat) (x0 : List Int) (x7 : Int) (x8 : Int) : Option ((Int × Unit) × (Unit × Unit × Unit)) := cutF cx 107074 2 Tryz.f74 k (x0, (()), x7, x8, ())
theorem F3_eq (k : Nat) (a0_0 : Int) (a0_1 : Bool) (a0_2 : Bool) (a0_3 : List Int) (a0_4 : Int) (a0_5 : Int) (a0_6 : Int) (a0_7 : Int) (a0_8 : ByteArray) (a1_0 : Int) (a1_1 : Bool) (a1_2 : Bool) (a1_3 : List Int) (a1_4 : Int) (a1_5 : Int) (a1_6 : Int) (a1_7 : Int) (a1_8 : ByteArray) : F3 (k + 2) a0_0 a0_1 a0_2 a0_3 a0_4 a0_5 a0_6 a0_7 a0_8 a1_0 a1_1 a1_2 a1_3 a1_4 a1_5 a1_6 a1_7 a1_8 =
    (F8 k a0_0 a0_1 a0_2 a0_3 a0_4 a0_5 a0_6 a0_7 a0_8 (1048576 : Int)).bind fun r1 => if (decide (r1.1.1 < (0 : Int))) = true then some ((true, ()), (((), (), (), (), (), (), (), (), (), ()), ((), (), (), (), (), (), (), (), (), ()), ())) else (F8 k a1_0 a1_1 a1_2 a1_3 a1_4 a1_5 a1_6 a1_7 a1_8 r1.1.1).bind fun r2 => if (decide (r2.1.1 < (0 : Int))) = true then some ((true, ()), (((), (), (), (), (), (), (), (), (), ()), ((), (), (), (), (), (), (), (), (), ()), ())) else (F10 k a0_0 a0_1 a0_2 a0_3 a0_4 a0_5 a0_6 a0_7 a0_8).bind fun r3 => (F10 k a1_0 a1_1 a1_2 a1_3 a1_4 a1_5 a1_6 a1_7 a1_8).bind fun r4 => (F9 k r3.1.1.1 r3.1.1.2.1 r3.1.1.2.2.1 r3.1.1.2.2.2.1 r3.1.1.2.2.2.2.1 r3.1.1.2.2.2.2.2.1 r3.1.1.2.2.2.2.2.2.1 r3.1.1.2.2.2.2.2.2.2.1 r3.1.1.2.2.2.2.2.2.2.2.1 r4.1.1.1 r4.1.1.2.1 r4.1.1.2.2.1 r4.1.1.2.2.2.1 r4.1.1.2.2.2.2.1 r4.1.1.2.2.2.2.2.1 r4.1.1.2.2.2.2.2.2.1 r4.1.1.2.2.2.2.2.2.2.1 r4.1.1.2.2.2.2.2.2.2.2.1).bind fun r5 => (F10 k a0_0 a0_1 a0_2 a0_3 a0_4 a0_5 a0_6 a0_7 a0_8).bind fun r6 => (F10 k a1_0 a1_1 a1_2 a1_3 a1_4 a1_5 a1_6 a1_7 a1_8).bind fun r7 => (F11 k r6.1.1.1 r6.1.1.2.1 r6.1.1.2.2.1 r6.1.1.2.2.2.1 r6.1.1.2.2.2.2.1 r6.1.1.2.2.2.2.2.1 r6.1.1.2.2.2.2.2.2.1 r6.1.1.2.2.2.2.2.2.2.1 r6.1.1.2.2.2.2.2.2.2.2.1 r7.1.1.1 r7.1.1.2.1 r7.1.1.2.2.1 r7.1.1.2.2.2.1 r7.1.1.2.2.2.2.1 r7.1.1.2.2.2.2.2.1 r7.1.1.2.2.2.2.2.2.1 r7.1.1.2.2.2.2.2.2.2.1 r7.1.1.2.2.2.2.2.2.2.2.1).bind fun r8 => if (r8.1.1 != r5.1.1) = true then some ((false, ()), (((), (), (), (), (), (), (), (), (), ()), ((), (), (), (), (), (), (), (), (), ()), ())) else if (!(r8.1.2.1 == r5.1.2.1)) = true then some ((false, ()), (((), (), (), (), (), (), (), (), (), ()), ((), (), (), (), (), (), (), (), (), ()), ())) else (F10 k a0_0 a0_1 a0_2 a0_3 a0_4 a0_5 a0_6 a0_7 a0_8).bind fun r9 => (F12 k r6.1.1.1 r6.1.1.2.1 r6.1.1.2.2.1 r6.1.1.2.2.2.1 r6.1.1.2.2.2.2.1 r6.1.1.2.2.2.2.2.1 r6.1.1.2.2.2.2.2.2.1 r6.1.1.2.2.2.2.2.2.2.1 r6.1.1.2.2.2.2.2.2.2.2.1 r9.1.1.1 r9.1.1.2.1 r9.1.1.2.2.1 r9.1.1.2.2.2.1 r9.1.1.2.2.2.2.1 r9.1.1.2.2.2.2.2.1 r9.1.1.2.2.2.2.2.2.1 r9.1.1.2.2.2.2.2.2.2.1 r9.1.1.2.2.2.2.2.2.2.2.1).bind fun r10 => if (!r10.1.1) = true then some ((false, ()), (((), (), (), (), (), (), (), (), (), ()), ((), (), (), (), (), (), (), (), (), ()), ())) else (F10 k a1_0 a1_1 a1_2 a1_3 a1_4 a1_5 a1_6 a1_7 a1_8).bind fun r11 => (F12 k r7.1.1.1 r7.1.1.2.1 r7.1.1.2.2.1 r7.1.1.2.2.2.1 r7.1.1.2.2.2.2.1 r7.1.1.2.2.2.2.2.1 r7.1.1.2.2.2.2.2.2.1 r7.1.1.2.2.2.2.2.2.2.1 r7.1.1.2.2.2.2.2.2.2.2.1 r11.1.1.1 r11.1.1.2.1 r11.1.1.2.2.1 r11.1.1.2.2.2.1 r11.1.1.2.2.2.2.1 r11.1.1.2.2.2.2.2.1 r11.1.1.2.2.2.2.2.2.1 r11.1.1.2.2.2.2.2.2.2.1 r11.1.1.2.2.2.2.2.2.2.2.1).bind fun r12 => if (!r12.1.1) = true then some ((false, ()), (((), (), (), (), (), (), (), (), (), ()), ((), (), (), (), (), (), (), (), (), ()), ())) else some ((true, ()), (((), (), (), (), (), (), (), (), (), ()), ((), (), (), (), (), (), (), (), (), ()), ())) := by kernel_rfl
theorem F4_eq (k : Nat) (a0_0 : Int) (a0_1 : Bool) (a0_2 : Bool) (a0_3 : List Int) (a0_4 : Int) (a0_5 : Int) (a0_6 : Int) (a0_7 : Int) (a0_8 : ByteArray) (a1_0 : Int) (a1_1 : Bool) (a1_2 : Bool) (a1_3 : List Int) (a1_4 : Int) (a1_5 : Int) (a1_6 : Int) (a1_7 : Int) (a1_8 : ByteArray) : F4 (k + 2) a0_0 a0_1 a0_2 a0_3 a0_4 a0_5 a0_6 a0_7 a0_8 a1_0 a1_1 a1_2 a1_3 a1_4 a1_5 a1_6 a1_7 a1_8 =
    (F8 k a0_0 a0_1 a0_2 a0_3 a0_4 a0_5 a0_6 a0_7 a0_8 (1048576 : Int)).bind fun r1 => if (decide (r1.1.1 < (0 : Int))) = true then some ((true, ()), (((), (), (), (), (), (), (), (), (), ()), ((), (), (), (), (), (), (), (), (), ()), ())) else (F8 k a1_0 a1_1 a1_2 a1_3 a1_4 a1_5 a1_6 a1_7 a1_8 r1.1.1).bind fun r2 => if (decide (r2.1.1 < (0 : Int))) = true then some ((true, ()), (((), (), (), (), (), (), (), (), (), ()), ((), (), (), (), (), (), (), (), (), ()), ())) else (F10 k a0_0 a0_1 a0_2 a0_3 a0_4 a0_5 a0_6 a0_7 a0_8).bind fun r3 => (F10 k a1_0 a1_1 a1_2 a1_3 a1_4 a1_5 a1_6 a1_7 a1_8).bind fun r4 => (F13 k r3.1.1.1 r3.1.1.2.1 r3.1.1.2.2.1 r3.1.1.2.2.2.1 r3.1.1.2.2.2.2.1 r3.1.1.2.2.2.2.2.1 r3.1.1.2.2.2.2.2.2.1 r3.1.1.2.2.2.2.2.2.2.1 r3.1.1.2.2.2.2.2.2.2.2.1 r4.1.1.1 r4.1.1.2.1 r4.1.1.2.2.1 r4.1.1.2.2.2.1 r4.1.1.2.2.2.2.1 r4.1.1.2.2.2.2.2.1 r4.1.1.2.2.2.2.2.2.1 r4.1.1.2.2.2.2.2.2.2.1 r4.1.1.2.2.2.2.2.2.2.2.1).bind fun r5 => (F10 k a0_0 a0_1 a0_2 a0_3 a0_4 a0_5 a0_6 a0_7 a0_8).bind fun r6 => (F10 k a1_0 a1_1 a1_2 a1_3 a1_4 a1_5 a1_6 a1_7 a1_8).bind fun r7 => (F14 k r6.1.1.1 r6.1.1.2.1 r6.1.1.2.2.1 r6.1.1.2.2.2.1 r6.1.1.2.2.2.2.1 r6.1.1.2.2.2.2.2.1 r6.1.1.2.2.2.2.2.2.1 r6.1.1.2.2.2.2.2.2.2.1 r6.1.1.2.2.2.2.2.2.2.2.1 r7.1.1.1 r7.1.1.2.1 r7.1.1.2.2.1 r7.1.1.2.2.2.1 r7.1.1.2.2.2.2.1 r7.1.1.2.2.2.2.2.1 r7.1.1.2.2.2.2.2.2.1 r7.1.1.2.2.2.2.2.2.2.1 r7.1.1.2.2.2.2.2.2.2.2.1).bind fun r8 => if (r8.1.1 != r5.1.1) = true then some ((false, ()), (((), (), (), (), (), (), (), (), (), ()), ((), (), (), (), (), (), (), (), (), ()), ())) else (F10 k a0_0 a0_1 a0_2 a0_3 a0_4 a0_5 a0_6 a0_7 a0_8).bind fun r9 => (F12 k r6.1.1.1 r6.1.1.2.1 r6.1.1.2.2.1 r6.1.1.2.2.2.1 r6.1.1.2.2.2.2.1 r6.1.1.2.2.2.2.2.1 r6.1.1.2.2.2.2.2.2.1 r6.1.1.2.2.2.2.2.2.2.1 r6.1.1.2.2.2.2.2.2.2.2.1 r9.1.1.1 r9.1.1.2.1 r9.1.1.2.2.1 r9.1.1.2.2.2.1 r9.1.1.2.2.2.2.1 r9.1.1.2.2.2.2.2.1 r9.1.1.2.2.2.2.2.2.1 r9.1.1.2.2.2.2.2.2.2.1 r9.1.1.2.2.2.2.2.2.2.2.1).bind fun r10 => if (!r10.1.1) = true then some ((false, ()), (((), (), (), (), (), (), (), (), (), ()), ((), (), (), (), (), (), (), (), (), ()), ())) else (F10 k a1_0 a1_1 a1_2 a1_3 a1_4 a1_5 a1_6 a1_7 a1_8).bind fun r11 => (F12 k r7.1.1.1 r7.1.1.2.1 r7.1.1.2.2.1 r7.1.1.2.2.2.1 r7.1.1.2.2.2.2.1 r7.1.1.2.2.2.2.2.1 r7.1.1.2.2.2.2.2.2.1 r7.1.1.2.2.2.2.2.2.2.1 r7.1.1.2.2.2.2.2.2.2.2.1 r11.1.1.1 r11.1.1.2.1 r11.1.1.2.2.1 r11.1.1.2.2.2.1 r11.1.1.2.2.2.2.1 r11.1.1.2.2.2.2.2.1 r11.1.1.2.2.2.2.2.2.1 r11.1.1.2.2.2.2.2.2.2.1 r11.1.1.2.2.2.2.2.2.2.2.1).bind fun r12 => if (!r12.1.1) = true then some ((false, ()), (((), (), (), (), (), (), (), (), (), ()), ((), (), (), (), (), (), (), (), (), ()), ())) else some ((true, ()), (((), (), (), (), (), (), (), (), (), ()), ((), (), (), (), (), (), (), (), (), ()), ())) := by kernel_rfl
theorem F6_eq (k : Nat) (a0 : List Int) : F6 (k + 2) a0 =
    if (decide ((a0.length : Int) > (1048576 : Int))) = true then some ((true, ()), ((), ())) else (F24 k a0).bind fun r1 => (F11 k r1.1.1.1 r1.1.1.2.1 r1.1.1.2.2.1 r1.1.1.2.2.2.1 r1.1.1.2.2.2.2.1 r1.1.1.2.2.2.2.2.1 r1.1.1.2.2.2.2.2.2.1 r1.1.1.2.2.2.2.2.2.2.1 r1.1.1.2.2.2.2.2.2.2.2.1 r1.1.2.1.1 r1.1.2.1.2.1 r1.1.2.1.2.2.1 r1.1.2.1.2.2.2.1 r1.1.2.1.2.2.2.2.1 r1.1.2.1.2.2.2.2.2.1 r1.1.2.1.2.2.2.2.2.2.1 r1.1.2.1.2.2.2.2.2.2.2.1 r1.1.2.1.2.2.2.2.2.2.2.2.1).bind fun r2 => (F9 k r1.1.1.1 r1.1.1.2.1 r1.1.1.2.2.1 r1.1.1.2.2.2.1 r1.1.1.2.2.2.2.1 r1.1.1.2.2.2.2.2.1 r1.1.1.2.2.2.2.2.2.1 r1.1.1.2.2.2.2.2.2.2.1 r1.1.1.2.2.2.2.2.2.2.2.1 r1.1.2.1.1 r1.1.2.1.2.1 r1.1.2.1.2.2.1 r1.1.2.1.2.2.2.1 r1.1.2.1.2.2.2.2.1 r1.1.2.1.2.2.2.2.2.1 r1.1.2.1.2.2.2.2.2.2.1 r1.1.2.1.2.2.2.2.2.2.2.1 r1.1.2.1.2.2.2.2.2.2.2.2.1).bind fun r3 => if (!(r2.1.2.1 == r3.1.2.1)) = true then some ((false, ()), ((), ())) else if (r2.1.1 != r3.1.1) = true then some ((false, ()), ((), ())) else (F25 k r1.1.1.1 r1.1.1.2.1 r1.1.1.2.2.1 r1.1.1.2.2.2.1 r1.1.1.2.2.2.2.1 r1.1.1.2.2.2.2.2.1 r1.1.1.2.2.2.2.2.2.1 r1.1.1.2.2.2.2.2.2.2.1 r1.1.1.2.2.2.2.2.2.2.2.1).bind fun r4 => (F26 k r1.1.1.1 r1.1.1.2.1 r1.1.1.2.2.1 r1.1.1.2.2.2.1 r1.1.1.2.2.2.2.1 r1.1.1.2.2.2.2.2.1 r1.1.1.2.2.2.2.2.2.1 r1.1.1.2.2.2.2.2.2.2.1 r1.1.1.2.2.2.2.2.2.2.2.1).bind fun r5 => if (!(r4.1.1 == r5.1.1)) = true then some ((false, ()), ((), ())) else (F11 k r1.1.2.1.1 r1.1.2.1.2.1 r1.1.2.1.2.2.1 r1.1.2.1.2.2.2.1 r1.1.2.1.2.2.2.2.1 r1.1.2.1.2.2.2.2.2.1 r1.1.2.1.2.2.2.2.2.2.1 r1.1.2.1.2.2.2.2.2.2.2.1 r1.1.2.1.2.2.2.2.2.2.2.2.1 r1.1.1.1 r1.1.1.2.1 r1.1.1.2.2.1 r1.1.1.2.2.2.1 r1.1.1.2.2.2.2.1 r1.1.1.2.2.2.2.2.1 r1.1.1.2.2.2.2.2.2.1 r1.1.1.2.2.2.2.2.2.2.1 r1.1.1.2.2.2.2.2.2.2.2.1).bind fun r6 => (F11 k r1.1.1.1 r1.1.1.2.1 r1.1.1.2.2.1 r1.1.1.2.2.2.1 r1.1.1.2.2.2.2.1 r1.1.1.2.2.2.2.2.1 r1.1.1.2.2.2.2.2.2.1 r1.1.1.2.2.2.2.2.2.2.1 r1.1.1.2.2.2.2.2.2.2.2.1 (0 : Int) false false ([] : List Int) (0 : Int) (0 : Int) (0 : Int) (0 : Int) ByteArray.empty).bind fun r7 => if (r6.1.2.1 == r2.1.2.1) = true then if (r6.1.1 == (IntKind.i64.wrap (0 - r2.1.1))) = true then if (!r7.1.2.1) = true then if (!r2.1.2.1) = true then some ((true, ()), ((), ())) else (F14 k r1.1.1.1 r1.1.1.2.1 r1.1.1.2.2.1 r1.1.1.2.2.2.1 r1.1.1.2.2.2.2.1 r1.1.1.2.2.2.2.2.1 r1.1.1.2.2.2.2.2.2.1 r1.1.1.2.2.2.2.2.2.2.1 r1.1.1.2.2.2.2.2.2.2.2.1 r1.1.2.1.1 r1.1.2.1.2.1 r1.1.2.1.2.2.1 r1.1.2.1.2.2.2.1 r1.1.2.1.2.2.2.2.1 r1.1.2.1.2.2.2.2.2.1 r1.1.2.1.2.2.2.2.2.2.1 r1.1.2.1.2.2.2.2.2.2.2.1 r1.1.2.1.2.2.2.2.2.2.2.2.1).bind fun r8 => some (((r8.1.1 == r2.1.1), ()), ((), ())) else some ((false, ()), ((), ())) else some ((false, ()), ((), ())) else some ((false, ()), ((), ())) := by kernel_rfl
theorem F7_eq (k : Nat) (a0 : List Int) (a1 : List Int) : F7 (k + 2) a0 a1 =
    if (decide ((a0.length : Int) > (1048576 : Int))) = true then some ((true, ()), ((), (), ())) else if (decide ((a1.length : Int) > (1048576 : Int))) = true then some ((true, ()), ((), (), ())) else (F27 k a0).bind fun r1 => (F27 k a1).bind fun r2 => (F14 k r1.1.1.1 r1.1.1.2.1 r1.1.1.2.2.1 r1.1.1.2.2.2.1 r1.1.1.2.2.2.2.1 r1.1.1.2.2.2.2.2.1 r1.1.1.2.2.2.2.2.2.1 r1.1.1.2.2.2.2.2.2.2.1 r1.1.1.2.2.2.2.2.2.2.2.1 r1.1.2.1.1 r1.1.2.1.2.1 r1.1.2.1.2.2.1 r1.1.2.1.2.2.2.1 r1.1.2.1.2.2.2.2.1 r1.1.2.1.2.2.2.2.2.1 r1.1.2.1.2.2.2.2.2.2.1 r1.1.2.1.2.2.2.2.2.2.2.1 r1.1.2.1.2.2.2.2.2.2.2.2.1).bind fun r3 => (F14 k r1.1.2.1.1 r1.1.2.1.2.1 r1.1.2.1.2.2.1 r1.1.2.1.2.2.2.1 r1.1.2.1.2.2.2.2.1 r1.1.2.1.2.2.2.2.2.1 r1.1.2.1.2.2.2.2.2.2.1 r1.1.2.1.2.2.2.2.2.2.2.1 r1.1.2.1.2.2.2.2.2.2.2.2.1 r2.1.1.1 r2.1.1.2.1 r2.1.1.2.2.1 r2.1.1.2.2.2.1 r2.1.1.2.2.2.2.1 r2.1.1.2.2.2.2.2.1 r2.1.1.2.2.2.2.2.2.1 r2.1.1.2.2.2.2.2.2.2.1 r2.1.1.2.2.2.2.2.2.2.2.1).bind fun r4 => (F13 k r1.1.1.1 r1.1.1.2.1 r1.1.1.2.2.1 r1.1.1.2.2.2.1 r1.1.1.2.2.2.2.1 r1.1.1.2.2.2.2.2.1 r1.1.1.2.2.2.2.2.2.1 r1.1.1.2.2.2.2.2.2.2.1 r1.1.1.2.2.2.2.2.2.2.2.1 r1.1.2.1.1 r1.1.2.1.2.1 r1.1.2.1.2.2.1 r1.1.2.1.2.2.2.1 r1.1.2.1.2.2.2.2.1 r1.1.2.1.2.2.2.2.2.1 r1.1.2.1.2.2.2.2.2.2.1 r1.1.2.1.2.2.2.2.2.2.2.1 r1.1.2.1.2.2.2.2.2.2.2.2.1).bind fun r5 => if (r3.1.1 != r5.1.1) = true then (F13 k r1.1.1.1 r1.1.1.2.1 r1.1.1.2.2.1 r1.1.1.2.2.2.1 r1.1.1.2.2.2.2.1 r1.1.1.2.2.2.2.2.1 r1.1.1.2.2.2.2.2.2.1 r1.1.1.2.2.2.2.2.2.2.1 r1.1.1.2.2.2.2.2.2.2.2.1 r1.1.2.1.1 r1.1.2.1.2.1 r1.1.2.1.2.2.1 r1.1.2.1.2.2.2.1 r1.1.2.1.2.2.2.2.1 r1.1.2.1.2.2.2.2.2.1 r1.1.2.1.2.2.2.2.2.2.1 r1.1.2.1.2.2.2.2.2.2.2.1 r1.1.2.1.2.2.2.2.2.2.2.2.1).bind fun r6 => if (r3.1.1 == r6.1.1) = true then (F13 k r1.1.2.1.1 r1.1.2.1.2.1 r1.1.2.1.2.2.1 r1.1.2.1.2.2.2.1 r1.1.2.1.2.2.2.2.1 r1.1.2.1.2.2.2.2.2.1 r1.1.2.1.2.2.2.2.2.2.1 r1.1.2.1.2.2.2.2.2.2.2.1 r1.1.2.1.2.2.2.2.2.2.2.2.1 r2.1.1.1 r2.1.1.2.1 r2.1.1.2.2.1 r2.1.1.2.2.2.1 r2.1.1.2.2.2.2.1 r2.1.1.2.2.2.2.2.1 r2.1.1.2.2.2.2.2.2.1 r2.1.1.2.2.2.2.2.2.2.1 r2.1.1.2.2.2.2.2.2.2.2.1).bind fun r7 => some (((r4.1.1 == r7.1.1), ()), ((), (), ())) else some ((false, ()), ((), (), ())) else (F13 k r1.1.2.1.1 r1.1.2.1.2.1 r1.1.2.1.2.2.1 r1.1.2.1.2.2.2.1 r1.1.2.1.2.2.2.2.1 r1.1.2.1.2.2.2.2.2.1 r1.1.2.1.2.2.2.2.2.2.1 r1.1.2.1.2.2.2.2.2.2.2.1 r1.1.2.1.2.2.2.2.2.2.2.2.1 r2.1.1.1 r2.1.1.2.1 r2.1.1.2.2.1 r2.1.1.2.2.2.1 r2.1.1.2.2.2.2.1 r2.1.1.2.2.2.2.2.1 r2.1.1.2.2.2.2.2.2.1 r2.1.1.2.2.2.2.2.2.2.1 r2.1.1.2.2.2.2.2.2.2.2.1).bind fun r8 => if (r4.1.1 != r8.1.1) = true then (F13 k r1.1.1.1 r1.1.1.2.1 r1.1.1.2.2.1 r1.1.1.2.2.2.1 r1.1.1.2.2.2.2.1 r1.1.1.2.2.2.2.2.1 r1.1.1.2.2.2.2.2.2.1 r1.1.1.2.2.2.2.2.2.2.1 r1.1.1.2.2.2.2.2.2.2.2.1 r1.1.2.1.1 r1.1.2.1.2.1 r1.1.2.1.2.2.1 r1.1.2.1.2.2.2.1 r1.1.2.1.2.2.2.2.1 r1.1.2.1.2.2.2.2.2.1 r1.1.2.1.2.2.2.2.2.2.1 r1.1.2.1.2.2.2.2.2.2.2.1 r1.1.2.1.2.2.2.2.2.2.2.2.1).bind fun r9 => if (r3.1.1 == r9.1.1) = true then (F13 k r1.1.2.1.1 r1.1.2.1.2.1 r1.1.2.1.2.2.1 r1.1.2.1.2.2.2.1 r1.1.2.1.2.2.2.2.1 r1.1.2.1.2.2.2.2.2.1 r1.1.2.1.2.2.2.2.2.2.1 r1.1.2.1.2.2.2.2.2.2.2.1 r1.1.2.1.2.2.2.2.2.2.2.2.1 r2.1.1.1 r2.1.1.2.1 r2.1.1.2.2.1 r2.1.1.2.2.2.1 r2.1.1.2.2.2.2.1 r2.1.1.2.2.2.2.2.1 r2.1.1.2.2.2.2.2.2.1 r2.1.1.2.2.2.2.2.2.2.1 r2.1.1.2.2.2.2.2.2.2.2.1).bind fun r10 => some (((r4.1.1 == r10.1.1), ()), ((), (), ())) else some ((false, ()), ((), (), ())) else if (r3.1.1 == (2 : Int)) = true then (F13 k r1.1.1.1 r1.1.1.2.1 r1.1.1.2.2.1 r1.1.1.2.2.2.1 r1.1.1.2.2.2.2.1 r1.1.1.2.2.2.2.2.1 r1.1.1.2.2.2.2.2.2.1 r1.1.1.2.2.2.2.2.2.2.1 r1.1.1.2.2.2.2.2.2.2.2.1 r1.1.2.1.1 r1.1.2.1.2.1 r1.1.2.1.2.2.1 r1.1.2.1.2.2.2.1 r1.1.2.1.2.2.2.2.1 r1.1.2.1.2.2.2.2.2.1 r1.1.2.1.2.2.2.2.2.2.1 r1.1.2.1.2.2.2.2.2.2.2.1 r1.1.2.1.2.2.2.2.2.2.2.2.1).bind fun r11 => if (r3.1.1 == r11.1.1) = true then (F13 k r1.1.2.1.1 r1.1.2.1.2.1 r1.1.2.1.2.2.1 r1.1.2.1.2.2.2.1 r1.1.2.1.2.2.2.2.1 r1.1.2.1.2.2.2.2.2.1 r1.1.2.1.2.2.2.2.2.2.1 r1.1.2.1.2.2.2.2.2.2.2.1 r1.1.2.1.2.2.2.2.2.2.2.2.1 r2.1.1.1 r2.1.1.2.1 r2.1.1.2.2.1 r2.1.1.2.2.2.1 r2.1.1.2.2.2.2.1 r2.1.1.2.2.2.2.2.1 r2.1.1.2.2.2.2.2.2.1 r2.1.1.2.2.2.2.2.2.2.1 r2.1.1.2.2.2.2.2.2.2.2.1).bind fun r12 => some (((r4.1.1 == r12.1.1), ()), ((), (), ())) else some ((false, ()), ((), (), ())) else if (r4.1.1 == (2 : Int)) = true then (F13 k r1.1.1.1 r1.1.1.2.1 r1.1.1.2.2.1 r1.1.1.2.2.2.1 r1.1.1.2.2.2.2.1 r1.1.1.2.2.2.2.2.1 r1.1.1.2.2.2.2.2.2.1 r1.1.1.2.2.2.2.2.2.2.1 r1.1.1.2.2.2.2.2.2.2.2.1 r1.1.2.1.1 r1.1.2.1.2.1 r1.1.2.1.2.2.1 r1.1.2.1.2.2.2.1 r1.1.2.1.2.2.2.2.1 r1.1.2.1.2.2.2.2.2.1 r1.1.2.1.2.2.2.2.2.2.1 r1.1.2.1.2.2.2.2.2.2.2.1 r1.1.2.1.2.2.2.2.2.2.2.2.1).bind fun r13 => if (r3.1.1 == r13.1.1) = true then (F13 k r1.1.2.1.1 r1.1.2.1.2.1 r1.1.2.1.2.2.1 r1.1.2.1.2.2.2.1 r1.1.2.1.2.2.2.2.1 r1.1.2.1.2.2.2.2.2.1 r1.1.2.1.2.2.2.2.2.2.1 r1.1.2.1.2.2.2.2.2.2.2.1 r1.1.2.1.2.2.2.2.2.2.2.2.1 r2.1.1.1 r2.1.1.2.1 r2.1.1.2.2.1 r2.1.1.2.2.2.1 r2.1.1.2.2.2.2.1 r2.1.1.2.2.2.2.2.1 r2.1.1.2.2.2.2.2.2.1 r2.1.1.2.2.2.2.2.2.2.1 r2.1.1.2.2.2.2.2.2.2.2.1).bind fun r14 => some (((r4.1.1 == r14.1.1), ()), ((), (), ())) else some ((false, ()), ((), (), ())) else (F14 k r1.1.1.1 r1.1.1.2.1 r1.1.1.2.2.1 r1.1.1.2.2.2.1 r1.1.1.2.2.2.2.1 r1.1.1.2.2.2.2.2.1 r1.1.1.2.2.2.2.2.2.1 r1.1.1.2.2.2.2.2.2.2.1 r1.1.1.2.2.2.2.2.2.2.2.1 r2.1.1.1 r2.1.1.2.1 r2.1.1.2.2.1 r2.1.1.2.2.2.1 r2.1.1.2.2.2.2.1 r2.1.1.2.2.2.2.2.1 r2.1.1.2.2.2.2.2.2.1 r2.1.1.2.2.2.2.2.2.2.1 r2.1.1.2.2.2.2.2.2.2.2.1).bind fun r15 => (F14 k r1.1.2.1.1 r1.1.2.1.2.1 r1.1.2.1.2.2.1 r1.1.2.1.2.2.2.1 r1.1.2.1.2.2.2.2.1 r1.1.2.1.2.2.2.2.2.1 r1.1.2.1.2.2.2.2.2.2.1 r1.1.2.1.2.2.2.2.2.2.2.1 r1.1.2.1.2.2.2.2.2.2.2.2.1 r1.1.1.1 r1.1.1.2.1 r1.1.1.2.2.1 r1.1.1.2.2.2.1 r1.1.1.2.2.2.2.1 r1.1.1.2.2.2.2.2.1 r1.1.1.2.2.2.2.2.2.1 r1.1.1.2.2.2.2.2.2.2.1 r1.1.1.2.2.2.2.2.2.2.2.1).bind fun r16 => if (r16.1.1 != (IntKind.i64.wrap (0 - r3.1.1))) = true then some ((false, ()), ((), (), ())) else (F14 k r1.1.1.1 r1.1.1.2.1 r1.1.1.2.2.1 r1.1.1.2.2.2.1 r1.1.1.2.2.2.2.1 r1.1.1.2.2.2.2.2.1 r1.1.1.2.2.2.2.2.2.1 r1.1.1.2.2.2.2.2.2.2.1 r1.1.1.2.2.2.2.2.2.2.2.1 r1.1.1.1 r1.1.1.2.1 r1.1.1.2.2.1 r1.1.1.2.2.2.1 r1.1.1.2.2.2.2.1 r1.1.1.2.2.2.2.2.1 r1.1.1.2.2.2.2.2.2.1 r1.1.1.2.2.2.2.2.2.2.1 r1.1.1.2.2.2.2.2.2.2.2.1).bind fun r17 => if (r17.1.1 != (0 : Int)) = true then some ((false, ()), ((), (), ())) else if (decide (r3.1.1 ≤ (0 : Int))) = true then if (decide (r4.1.1 ≤ (0 : Int))) = true then if (decide (r15.1.1 > (0 : Int))) = true then some ((false, ()), ((), (), ())) else if (decide (r3.1.1 ≥ (0 : Int))) = true then if (decide (r4.1.1 ≥ (0 : Int))) = true then if (decide (r15.1.1 < (0 : Int))) = true then some ((false, ()), ((), (), ())) else (F14 k (0 : Int) false false ([] : List Int) (0 : Int) (0 : Int) (0 : Int) (0 : Int) ByteArray.empty r1.1.1.1 r1.1.1.2.1 r1.1.1.2.2.1 r1.1.1.2.2.2.1 r1.1.1.2.2.2.2.1 r1.1.1.2.2.2.2.2.1 r1.1.1.2.2.2.2.2.2.1 r1.1.1.2.2.2.2.2.2.2.1 r1.1.1.2.2.2.2.2.2.2.2.1).bind fun r18 => if (decide (r18.1.1 ≤ (0 : Int))) = true then if (r1.1.1.1 == r1.1.2.1.1) = true then some ((true, ()), ((), (), ())) else some (((decide (r1.1.1.1 < r1.1.2.1.1) == decide (r3.1.1 < (0 : Int))), ()), ((), (), ())) else some ((false, ()), ((), (), ())) else (F14 k (0 : Int) false false ([] : List Int) (0 : Int) (0 : Int) (0 : Int) (0 : Int) ByteArray.empty r1.1.1.1 r1.1.1.2.1 r1.1.1.2.2.1 r1.1.1.2.2.2.1 r1.1.1.2.2.2.2.1 r1.1.1.2.2.2.2.2.1 r1.1.1.2.2.2.2.2.2.1 r1.1.1.2.2.2.2.2.2.2.1 r1.1.1.2.2.2.2.2.2.2.2.1).bind fun r19 => if (decide (r19.1.1 ≤ (0 : Int))) = true then if (r1.1.1.1 == r1.1.2.1.1) = true then some ((true, ()), ((), (), ())) else some (((decide (r1.1.1.1 < r1.1.2.1.1) == decide (r3.1.1 < (0 : Int))), ()), ((), (), ())) else some ((false, ()), ((), (), ())) else (F14 k (0 : Int) false false ([] : List Int) (0 : Int) (0 : Int) (0 : Int) (0 : Int) ByteArray.empty r1.1.1.1 r1.1.1.2.1 r1.1.1.2.2.1 r1.1.1.2.2.2.1 r1.1.1.2.2.2.2.1 r1.1.1.2.2.2.2.2.1 r1.1.1.2.2.2.2.2.2.1 r1.1.1.2.2.2.2.2.2.2.1 r1.1.1.2.2.2.2.2.2.2.2.1).bind fun r20 => if (decide (r20.1.1 ≤ (0 : Int))) = true then if (r1.1.1.1 == r1.1.2.1.1) = true then some ((true, ()), ((), (), ())) else some (((decide (r1.1.1.1 < r1.1.2.1.1) == decide (r3.1.1 < (0 : Int))), ()), ((), (), ())) else some ((false, ()), ((), (), ())) else if (decide (r3.1.1 ≥ (0 : Int))) = true then if (decide (r4.1.1 ≥ (0 : Int))) = true then if (decide (r15.1.1 < (0 : Int))) = true then some ((false, ()), ((), (), ())) else (F14 k (0 : Int) false false ([] : List Int) (0 : Int) (0 : Int) (0 : Int) (0 : Int) ByteArray.empty r1.1.1.1 r1.1.1.2.1 r1.1.1.2.2.1 r1.1.1.2.2.2.1 r1.1.1.2.2.2.2.1 r1.1.1.2.2.2.2.2.1 r1.1.1.2.2.2.2.2.2.1 r1.1.1.2.2.2.2.2.2.2.1 r1.1.1.2.2.2.2.2.2.2.2.1).bind fun r21 => if (decide (r21.1.1 ≤ (0 : Int))) = true then if (r1.1.1.1 == r1.1.2.1.1) = true then some ((true, ()), ((), (), ())) else some (((decide (r1.1.1.1 < r1.1.2.1.1) == decide (r3.1.1 < (0 : Int))), ()), ((), (), ())) else some ((false, ()), ((), (), ())) else (F14 k (0 : Int) false false ([] : List Int) (0 : Int) (0 : Int) (0 : Int) (0 : Int) ByteArray.empty r1.1.1.1 r1.1.1.2.1 r1.1.1.2.2.1 r1.1.1.2.2.2.1 r1.1.1.2.2.2.2.1 r1.1.1.2.2.2.2.2.1 r1.1.1.2.2.2.2.2.2.1 r1.1.1.2.2.2.2.2.2.2.1 r1.1.1.2.2.2.2.2.2.2.2.1).bind fun r22 => if (decide (r22.1.1 ≤ (0 : Int))) = true then if (r1.1.1.1 == r1.1.2.1.1) = true then some ((true, ()), ((), (), ())) else some (((decide (r1.1.1.1 < r1.1.2.1.1) == decide (r3.1.1 < (0 : Int))), ()), ((), (), ())) else some ((false, ()), ((), (), ())) else (F14 k (0 : Int) false false ([] : List Int) (0 : Int) (0 : Int) (0 : Int) (0 : Int) ByteArray.empty r1.1.1.1 r1.1.1.2.1 r1.1.1.2.2.1 r1.1.1.2.2.2.1 r1.1.1.2.2.2.2.1 r1.1.1.2.2.2.2.2.1 r1.1.1.2.2.2.2.2.2.1 r1.1.1.2.2.2.2.2.2.2.1 r1.1.1.2.2.2.2.2.2.2.2.1).bind fun r23 => if (decide (r23.1.1 ≤ (0 : Int))) = true then if (r1.1.1.1 == r1.1.2.1.1) = true then some ((true, ()), ((), (), ())) else some (((decide (r1.1.1.1 < r1.1.2.1.1) == decide (r3.1.1 < (0 : Int))), ()), ((), (), ())) else some ((false, ()), ((), (), ())) else if (decide (r3.1.1 ≥ (0 : Int))) = true then if (decide (r4.1.1 ≥ (0 : Int))) = true then if (decide (r15.1.1 < (0 : Int))) = true then some ((false, ()), ((), (), ())) else (F14 k (0 : Int) false false ([] : List Int) (0 : Int) (0 : Int) (0 : Int) (0 : Int) ByteArray.empty r1.1.1.1 r1.1.1.2.1 r1.1.1.2.2.1 r1.1.1.2.2.2.1 r1.1.1.2.2.2.2.1 r1.1.1.2.2.2.2.2.1 r1.1.1.2.2.2.2.2.2.1 r1.1.1.2.2.2.2.2.2.2.1 r1.1.1.2.2.2.2.2.2.2.2.1).bind fun r24 => if (decide (r24.1.1 ≤ (0 : Int))) = true then if (r1.1.1.1 == r1.1.2.1.1) = true then some ((true, ()), ((), (), ())) else some (((decide (r1.1.1.1 < r1.1.2.1.1) == decide (r3.1.1 < (0 : Int))), ()), ((), (), ())) else some ((false, ()), ((), (), ())) else (F14 k (0 : Int) false false ([] : List Int) (0 : Int) (0 : Int) (0 : Int) (0 : Int) ByteArray.empty r1.1.1.1 r1.1.1.2.1 r1.1.1.2.2.1 r1.1.1.2.2.2.1 r1.1.1.2.2.2.2.1 r1.1.1.2.2.2.2.2.1 r1.1.1.2.2.2.2.2.2.1 r1.1.1.2.2.2.2.2.2.2.1 r1.1.1.2.2.2.2.2.2.2.2.1).bind fun r25 => if (decide (r25.1.1 ≤ (0 : Int))) = true then if (r1.1.1.1 == r1.1.2.1.1) = true then some ((true, ()), ((), (), ())) else some (((decide (r1.1.1.1 < r1.1.2.1.1) == decide (r3.1.1 < (0 : Int))), ()), ((), (), ())) else some ((false, ()), ((), (), ())) else (F14 k (0 : Int) false false ([] : List Int) (0 : Int) (0 : Int) (0 : Int) (0 : Int) ByteArray.empty r1.1.1.1 r1.1.1.2.1 r1.1.1.2.2.1 r1.1.1.2.2.2.1 r1.1.1.2.2.2.2.1 r1.1.1.2.2.2.2.2.1 r1.1.1.2.2.2.2.2.2.1 r1.1.1.2.2.2.2.2.2.2.1 r1.1.1.2.2.2.2.2.2.2.2.1).bind fun r26 => if (decide (r26.1.1 ≤ (0 : Int))) = true then if (r1.1.1.1 == r1.1.2.1.1) = true then some ((true, ()), ((), (), ())) else some (((decide (r1.1.1.1 < r1.1.2.1.1) == decide (r3.1.1 < (0 : Int))), ()), ((), (), ())) else some ((false, ()), ((), (), ())) := by kernel_rfl
theorem F8_eq (k : Nat) (a0_0 : Int) (a0_1 : Bool) (a0_2 : Bool) (a0_3 : List Int) (a0_4 : Int) (a0_5 : Int) (a0_6 : Int) (a0_7 : Int) (a0_8 : ByteArray) (a1 : Int) : F8 (k + 2) a0_0 a0_1 a0_2 a0_3 a0_4 a0_5 a0_6 a0_7 a0_8 a1 =
    (F28 k a0_2 a0_3 a0_4 a1).bind fun r1 => if (decide (r1.1.1 < (0 : Int))) = true then some (((-1 : Int), ()), (((), (), (), (), (), (), (), (), (), ()), (), ())) else if (decide ((IntKind.i64.wrap (r1.1.1 - (a0_8.size : Int))) < (0 : Int))) = true then some (((-1 : Int), ()), (((), (), (), (), (), (), (), (), (), ()), (), ())) else some (((IntKind.i64.wrap (r1.1.1 - (a0_8.size : Int))), ()), (((), (), (), (), (), (), (), (), (), ()), (), ())) := by kernel_rfl
theorem F9_eq (k : Nat) (a0_0 : Int) (a0_1 : Bool) (a0_2 : Bool) (a0_3 : List Int) (a0_4 : Int) (a0_5 : Int) (a0_6 : Int) (a0_7 : Int) (a0_8 : ByteArray) (a1_0 : Int) (a1_1 : Bool) (a1_2 : Bool) (a1_3 : List Int) (a1_4 : Int) (a1_5 : Int) (a1_6 : Int) (a1_7 : Int) (a1_8 : ByteArray) : F9 (k + 2) a0_0 a0_1 a0_2 a0_3 a0_4 a0_5 a0_6 a0_7 a0_8 a1_0 a1_1 a1_2 a1_3 a1_4 a1_5 a1_6 a1_7 a1_8 =
    (F29 k a0_0 a0_1 a0_2 a0_3 a0_4 a0_5 a0_6 a0_7 a0_8).bind fun r1 => if (!r1.1.1) = true then some (((0 : Int), false, ()), (((), (), (), (), (), (), (), (), (), ()), ((), (), (), (), (), (), (), (), (), ()), ())) else (F29 k a1_0 a1_1 a1_2 a1_3 a1_4 a1_5 a1_6 a1_7 a1_8).bind fun r2 => if (!r2.1.1) = true then some (((0 : Int), false, ()), (((), (), (), (), (), (), (), (), (), ()), ((), (), (), (), (), (), (), (), (), ()), ())) else if (a0_0 == (0 : Int)) = true then some (((0 : Int), false, ()), (((), (), (), (), (), (), (), (), (), ()), ((), (), (), (), (), (), (), (), (), ()), ())) else if (a0_0 != a1_0) = true then some (((0 : Int), false, ()), (((), (), (), (), (), (), (), (), (), ()), ((), (), (), (), (), (), (), (), (), ()), ())) else (F30 k a0_0 a0_1 a0_2 a0_3 a0_4 a0_5 a0_6 a0_7 a0_8 a1_0 a1_1 a1_2 a1_3 a1_4 a1_5 a1_6 a1_7 a1_8).bind fun r3 => some ((r3.1.1, true, ()), (((), (), (), (), (), (), (), (), (), ()), ((), (), (), (), (), (), (), (), (), ()), ())) := by kernel_rfl
theorem F10_eq (k : Nat) (a0_0 : Int) (a0_1 : Bool) (a0_2 : Bool) (a0_3 : List Int) (a0_4 : Int) (a0_5 : Int) (a0_6 : Int) (a0_7 : Int) (a0_8 : ByteArray) : F10 (k + 2) a0_0 a0_1 a0_2 a0_3 a0_4 a0_5 a0_6 a0_7 a0_8 =
    (F31 k a0_2 a0_3 a0_4).bind fun r1 => (F32 k a0_6 a0_7).bind fun r2 => some (((a0_0, a0_1, r1.1.1.1, r1.1.1.2.1, r1.1.1.2.2.1, a0_5, r2.1.1.1, r2.1.1.2.1, a0_8, ()), ()), (((), (), (), (), (), (), (), (), (), ()), ())) := by kernel_rfl
theorem F11_eq (k : Nat) (a0_0 : Int) (a0_1 : Bool) (a0_2 : Bool) (a0_3 : List Int) (a0_4 : Int) (a0_5 : Int) (a0_6 : Int) (a0_7 : Int) (a0_8 : ByteArray) (a1_0 : Int) (a1_1 : Bool) (a1_2 : Bool) (a1_3 : List Int) (a1_4 : Int) (a1_5 : Int) (a1_6 : Int) (a1_7 : Int) (a1_8 : ByteArray) : F11 (k + 2) a0_0 a0_1 a0_2 a0_3 a0_4 a0_5 a0_6 a0_7 a0_8 a1_0 a1_1 a1_2 a1_3 a1_4 a1_5 a1_6 a1_7 a1_8 =
    (F25 k a0_0 a0_1 a0_2 a0_3 a0_4 a0_5 a0_6 a0_7 a0_8).bind fun r1 => if (!r1.1.1) = true then some (((0 : Int), false, ()), (((), (), (), (), (), (), (), (), (), ()), ((), (), (), (), (), (), (), (), (), ()), ())) else (F25 k a1_0 a1_1 a1_2 a1_3 a1_4 a1_5 a1_6 a1_7 a1_8).bind fun r2 => if (!r2.1.1) = true then some (((0 : Int), false, ()), (((), (), (), (), (), (), (), (), (), ()), ((), (), (), (), (), (), (), (), (), ()), ())) else if (a0_0 == (0 : Int)) = true then some (((0 : Int), false, ()), (((), (), (), (), (), (), (), (), (), ()), ((), (), (), (), (), (), (), (), (), ()), ())) else if (a0_0 != a1_0) = true then some (((0 : Int), false, ()), (((), (), (), (), (), (), (), (), (), ()), ((), (), (), (), (), (), (), (), (), ()), ())) else (F33 k a0_0 a0_1 a0_2 a0_3 a0_4 a0_5 a0_6 a0_7 a0_8 a1_0 a1_1 a1_2 a1_3 a1_4 a1_5 a1_6 a1_7 a1_8).bind fun r3 => some ((r3.1.1, true, ()), (((), (), (), (), (), (), (), (), (), ()), ((), (), (), (), (), (), (), (), (), ()), ())) := by kernel_rfl
theorem F12_eq (k : Nat) (a0_0 : Int) (a0_1 : Bool) (a0_2 : Bool) (a0_3 : List Int) (a0_4 : Int) (a0_5 : Int) (a0_6 : Int) (a0_7 : Int) (a0_8 : ByteArray) (a1_0 : Int) (a1_1 : Bool) (a1_2 : Bool) (a1_3 : List Int) (a1_4 : Int) (a1_5 : Int) (a1_6 : Int) (a1_7 : Int) (a1_8 : ByteArray) : F12 (k + 2) a0_0 a0_1 a0_2 a0_3 a0_4 a0_5 a0_6 a0_7 a0_8 a1_0 a1_1 a1_2 a1_3 a1_4 a1_5 a1_6 a1_7 a1_8 =
    if (a0_0 != a1_0) = true then some ((false, ()), (((), (), (), (), (), (), (), (), (), ()), ((), (), (), (), (), (), (), (), (), ()), ())) else if (!(a0_1 == a1_1)) = true then some ((false, ()), (((), (), (), (), (), (), (), (), (), ()), ((), (), (), (), (), (), (), (), (), ()), ())) else (F34 k a0_2 a0_3 a0_4 a1_2 a1_3 a1_4).bind fun r1 => if (!r1.1.1) = true then some ((false, ()), (((), (), (), (), (), (), (), (), (), ()), ((), (), (), (), (), (), (), (), (), ()), ())) else if (a0_5 != a1_5) = true then some ((false, ()), (((), (), (), (), (), (), (), (), (), ()), ((), (), (), (), (), (), (), (), (), ()), ())) else (F35 k a0_6 a0_7 a1_6 a1_7).bind fun r2 => if (!r2.1.1) = true then some ((false, ()), (((), (), (), (), (), (), (), (), (), ()), ((), (), (), (), (), (), (), (), (), ()), ())) else if (!(a0_8.toList == a1_8.toList)) = true then some ((false, ()), (((), (), (), (), (), (), (), (), (), ()), ((), (), (), (), (), (), (), (), (), ()), ())) else some ((true, ()), (((), (), (), (), (), (), (), (), (), ()), ((), (), (), (), (), (), (), (), (), ()), ())) := by kernel_rfl
theorem F13_eq (k : Nat) (a0_0 : Int) (a0_1 : Bool) (a0_2 : Bool) (a0_3 : List Int) (a0_4 : Int) (a0_5 : Int) (a0_6 : Int) (a0_7 : Int) (a0_8 : ByteArray) (a1_0 : Int) (a1_1 : Bool) (a1_2 : Bool) (a1_3 : List Int) (a1_4 : Int) (a1_5 : Int) (a1_6 : Int) (a1_7 : Int) (a1_8 : ByteArray) : F13 (k + 2) a0_0 a0_1 a0_2 a0_3 a0_4 a0_5 a0_6 a0_7 a0_8 a1_0 a1_1 a1_2 a1_3 a1_4 a1_5 a1_6 a1_7 a1_8 =
    (F29 k a0_0 a0_1 a0_2 a0_3 a0_4 a0_5 a0_6 a0_7 a0_8).bind fun r1 => if (!r1.1.1) = true then some (((2 : Int), ()), (((), (), (), (), (), (), (), (), (), ()), ((), (), (), (), (), (), (), (), (), ()), ())) else (F29 k a1_0 a1_1 a1_2 a1_3 a1_4 a1_5 a1_6 a1_7 a1_8).bind fun r2 => if (!r2.1.1) = true then some (((2 : Int), ()), (((), (), (), (), (), (), (), (), (), ()), ((), (), (), (), (), (), (), (), (), ()), ())) else (F36 k a0_0 a0_1 a0_2 a0_3 a0_4 a0_5 a0_6 a0_7 a0_8 a1_0 a1_1 a1_2 a1_3 a1_4 a1_5 a1_6 a1_7 a1_8).bind fun r3 => some ((r3.1.1, ()), (((), (), (), (), (), (), (), (), (), ()), ((), (), (), (), (), (), (), (), (), ()), ())) := by kernel_rfl
theorem F14_eq (k : Nat) (a0_0 : Int) (a0_1 : Bool) (a0_2 : Bool) (a0_3 : List Int) (a0_4 : Int) (a0_5 : Int) (a0_6 : Int) (a0_7 : Int) (a0_8 : ByteArray) (a1_0 : Int) (a1_1 : Bool) (a1_2 : Bool) (a1_3 : List Int) (a1_4 : Int) (a1_5 : Int) (a1_6 : Int) (a1_7 : Int) (a1_8 : ByteArray) : F14 (k + 2) a0_0 a0_1 a0_2 a0_3 a0_4 a0_5 a0_6 a0_7 a0_8 a1_0 a1_1 a1_2 a1_3 a1_4 a1_5 a1_6 a1_7 a1_8 =
    (F25 k a0_0 a0_1 a0_2 a0_3 a0_4 a0_5 a0_6 a0_7 a0_8).bind fun r1 => if (!r1.1.1) = true then some (((2 : Int), ()), (((), (), (), (), (), (), (), (), (), ()), ((), (), (), (), (), (), (), (), (), ()), ())) else (F25 k a1_0 a1_1 a1_2 a1_3 a1_4 a1_5 a1_6 a1_7 a1_8).bind fun r2 => if (!r2.1.1) = true then some (((2 : Int), ()), (((), (), (), (), (), (), (), (), (), ()), ((), (), (), (), (), (), (), (), (), ()), ())) else (F37 k a0_0 a0_1 a0_2 a0_3 a0_4 a0_5 a0_6 a0_7 a0_8 a1_0 a1_1 a1_2 a1_3 a1_4 a1_5 a1_6 a1_7 a1_8).bind fun r3 => some ((r3.1.1, ()), (((), (), (), (), (), (), (), (), (), ()), ((), (), (), (), (), (), (), (), (), ()), ())) := by kernel_rfl
theorem F18_eq (k : Nat) (a0 : List Int) : F18 (k + 2) a0 =
    if (decide (0 ≤ (a0.length : Int)) && decide ((a0.length : Int) ≤ (a0.length : Int)) && decide ((a0.length : Int) ≤ (17592186044416 : Int))) = true then F18c3 k a0 (List.replicate (a0.length : Int).toNat (0 : Int)) (0 : Int) else none := by kernel_rfl
theorem F18c3_eq (k : Nat) (x0 : List Int) (x3 : List Int) (x4 : Int) : F18c3 (k + 1) x0 x3 x4 =
    if (decide (x4 < (x0.length : Int))) = true then if (decide (0 ≤ x4)) = true then (x0[x4.toNat]?).bind fun y1 => if (decide (0 ≤ x4) && decide (x4 < (x3.length : Int))) = true then (x3[x4.toNat]?).bind fun y2 => F18c3 k x0 (x3.set x4.toNat y1) (IntKind.i64.wrap (x4 + (1 : Int))) else none else none else some ((x3, ()), ((), ())) := by kernel_rfl
theorem F22_eq (k : Nat) (a0 : List Int) (a1 : List Int) : F22 (k + 2) a0 a1 =
    if ((a0.length : Int) != (a1.length : Int)) = true then some ((false, ()), ((), (), ())) else F22c4 k a0 a1 (0 : Int) := by kernel_rfl
theorem F22c4_eq (k : Nat) (x0 : List Int) (x1 : List Int) (x5 : Int) : F22c4 (k + 1) x0 x1 x5 =
    if (decide (x5 < (x0.length : Int))) = true then if (decide (0 ≤ x5)) = true then (x0[x5.toNat]?).bind fun y1 => if (decide (0 ≤ x5)) = true then (x1[x5.toNat]?).bind fun y2 => if (y1 != y2) = true then some ((false, ()), ((), (), ())) else F22c4 k x0 x1 (IntKind.i64.wrap (x5 + (1 : Int))) else none else none else some ((true, ()), ((), (), ())) := by kernel_rfl
theorem F24_eq (k : Nat) (a0 : List Int) : F24 (k + 2) a0 =
    (F47 k a0).bind fun r1 => (F48 k r1.1.1.1 r1.1.1.2.1).bind fun r2 => (F49 k r2.2.1.1 r2.2.1.2.1 (3 : Int)).bind fun r3 => if (decide (r3.1.1 > (0 : Int))) = true then (F50 k r3.2.1.1 r3.2.1.2.1 r2.1.1.1).bind fun r4 => some (((r2.1.1.1, r2.1.1.2.1, r2.1.1.2.2.1, r2.1.1.2.2.2.1, r2.1.1.2.2.2.2.1, r2.1.1.2.2.2.2.2.1, r2.1.1.2.2.2.2.2.2.1, r2.1.1.2.2.2.2.2.2.2.1, r2.1.1.2.2.2.2.2.2.2.2.1, ()), (r4.1.1.1, r4.1.1.2.1, r4.1.1.2.2.1, r4.1.1.2.2.2.1, r4.1.1.2.2.2.2.1, r4.1.1.2.2.2.2.2.1, r4.1.1.2.2.2.2.2.2.1, r4.1.1.2.2.2.2.2.2.2.1, r4.1.1.2.2.2.2.2.2.2.2.1, ()), ()), ((), ())) else (F48 k r3.2.1.1 r3.2.1.2.1).bind fun r5 => some (((r2.1.1.1, r2.1.1.2.1, r2.1.1.2.2.1, r2.1.1.2.2.2.1, r2.1.1.2.2.2.2.1, r2.1.1.2.2.2.2.2.1, r2.1.1.2.2.2.2.2.2.1, r2.1.1.2.2.2.2.2.2.2.1, r2.1.1.2.2.2.2.2.2.2.2.1, ()), (r5.1.1.1, r5.1.1.2.1, r5.1.1.2.2.1, r5.1.1.2.2.2.1, r5.1.1.2.2.2.2.1, r5.1.1.2.2.2.2.2.1, r5.1.1.2.2.2.2.2.2.1, r5.1.1.2.2.2.2.2.2.2.1, r5.1.1.2.2.2.2.2.2.2.2.1, ()), ()), ((), ())) := by kernel_rfl
theorem F25_eq (k : Nat) (a0_0 : Int) (a0_1 : Bool) (a0_2 : Bool) (a0_3 : List Int) (a0_4 : Int) (a0_5 : Int) (a0_6 : Int) (a0_7 : Int) (a0_8 : ByteArray) : F25 (k + 2) a0_0 a0_1 a0_2 a0_3 a0_4 a0_5 a0_6 a0_7 a0_8 =
    if (a0_0 == (0 : Int)) = true then F25c21 k a0_0 a0_1 a0_2 a0_3 a0_4 a0_5 a0_6 a0_7 a0_8 true else if (a0_0 == (1 : Int)) = true then F25c21 k a0_0 false a0_2 a0_3 a0_4 a0_5 a0_6 a0_7 a0_8 true else if (a0_0 == (2 : Int)) = true then (F51 k a0_2 a0_3 a0_4).bind fun r1 => F25c21 k a0_0 a0_1 false ([] : List Int) (0 : Int) a0_5 a0_6 a0_7 a0_8 r1.1.1 else if (a0_0 == (3 : Int)) = true then (F52 k a0_5).bind fun r2 => F25c21 k a0_0 a0_1 a0_2 a0_3 a0_4 (0 : Int) a0_6 a0_7 a0_8 r2.1.1 else if (a0_0 == (4 : Int)) = true then (F53 k a0_6 a0_7).bind fun r3 => F25c21 k a0_0 a0_1 a0_2 a0_3 a0_4 a0_5 (0 : Int) (0 : Int) a0_8 r3.1.1 else if (a0_0 == (5 : Int)) = true then F25c17 k a0_0 a0_1 a0_2 a0_3 a0_4 a0_5 a0_6 a0_7 a0_8 a0_0 a0_1 a0_2 a0_3 a0_4 a0_5 a0_6 a0_7 (⟨#[]⟩ : ByteArray) (decide ((a0_8.size : Int) ≤ (12 : Int))) (a0_8.size : Int) (0 : Int) else F25c21 k a0_0 a0_1 a0_2 a0_3 a0_4 a0_5 a0_6 a0_7 a0_8 false := by kernel_rfl
theorem F25c21_eq (k : Nat) (x3_0 : Int) (x3_1 : Bool) (x3_2 : Bool) (x3_3 : List Int) (x3_4 : Int) (x3_5 : Int) (x3_6 : Int) (x3_7 : Int) (x3_8 : ByteArray) (x4 : Bool) : F25c21 (k + 1) x3_0 x3_1 x3_2 x3_3 x3_4 x3_5 x3_6 x3_7 x3_8 x4 =
    if x4 = true then if (!x3_1) = true then (F54 k x3_2 x3_3 x3_4).bind fun r4 => if r4.1.1 = true then if (x3_5 == (0 : Int)) = true then if (x3_6 == (0 : Int) && (x3_7 == (0 : Int) && true)) = true then some (((x3_8.toList == (⟨#[]⟩ : ByteArray).toList), ()), (((), (), (), (), (), (), (), (), (), ()), ())) else some ((false, ()), (((), (), (), (), (), (), (), (), (), ()), ())) else some ((false, ()), (((), (), (), (), (), (), (), (), (), ()), ())) else some ((false, ()), (((), (), (), (), (), (), (), (), (), ()), ())) else some ((false, ()), (((), (), (), (), (), (), (), (), (), ()), ())) else some ((false, ()), (((), (), (), (), (), (), (), (), (), ()), ())) := by kernel_rfl
theorem F25c17_eq (k : Nat) (x1_0 : Int) (x1_1 : Bool) (x1_2 : Bool) (x1_3 : List Int) (x1_4 : Int) (x1_5 : Int) (x1_6 : Int) (x1_7 : Int) (x1_8 : ByteArray) (x3_0 : Int) (x3_1 : Bool) (x3_2 : Bool) (x3_3 : List Int) (x3_4 : Int) (x3_5 : Int) (x3_6 : Int) (x3_7 : Int) (x3_8 : ByteArray) (x4 : Bool) (x43 : Int) (x44 : Int) : F25c17 (k + 1) x1_0 x1_1 x1_2 x1_3 x1_4 x1_5 x1_6 x1_7 x1_8 x3_0 x3_1 x3_2 x3_3 x3_4 x3_5 x3_6 x3_7 x3_8 x4 x43 x44 =
    if (decide (x44 < x43)) = true then if x4 = true then if (decide (0 ≤ x44)) = true then (x1_8[x44.toNat]?).bind fun u5 => (F45 k (IntKind.i64.wrap (u5.toNat : Int)) (32 : Int) (126 : Int)).bind fun r6 => F25c17 k x1_0 x1_1 x1_2 x1_3 x1_4 x1_5 x1_6 x1_7 x1_8 x3_0 x3_1 x3_2 x3_3 x3_4 x3_5 x3_6 x3_7 x3_8 r6.1.1 x43 (IntKind.i64.wrap (x44 + (1 : Int))) else none else F25c17 k x1_0 x1_1 x1_2 x1_3 x1_4 x1_5 x1_6 x1_7 x1_8 x3_0 x3_1 x3_2 x3_3 x3_4 x3_5 x3_6 x3_7 x3_8 false x43 (IntKind.i64.wrap (x44 + (1 : Int))) else F25c21 k x3_0 x3_1 x3_2 x3_3 x3_4 x3_5 x3_6 x3_7 x3_8 x4 := by kernel_rfl
theorem F26_eq (k : Nat) (a0_0 : Int) (a0_1 : Bool) (a0_2 : Bool) (a0_3 : List Int) (a0_4 : Int) (a0_5 : Int) (a0_6 : Int) (a0_7 : Int) (a0_8 : ByteArray) : F26 (k + 2) a0_0 a0_1 a0_2 a0_3 a0_4 a0_5 a0_6 a0_7 a0_8 =
    (F29 k a0_0 a0_1 a0_2 a0_3 a0_4 a0_5 a0_6 a0_7 a0_8).bind fun r1 => some ((r1.1.1, ()), (((), (), (), (), (), (), (), (), (), ()), ())) := by kernel_rfl
theorem F27_eq (k : Nat) (a0 : List Int) : F27 (k + 2) a0 =
    (F24 k a0).bind fun r1 => some (((r1.1.1.1, r1.1.1.2.1, r1.1.1.2.2.1, r1.1.1.2.2.2.1, r1.1.1.2.2.2.2.1, r1.1.1.2.2.2.2.2.1, r1.1.1.2.2.2.2.2.2.1, r1.1.1.2.2.2.2.2.2.2.1, r1.1.1.2.2.2.2.2.2.2.2.1, ()), (r1.1.2.1.1, r1.1.2.1.2.1, r1.1.2.1.2.2.1, r1.1.2.1.2.2.2.1, r1.1.2.1.2.2.2.2.1, r1.1.2.1.2.2.2.2.2.1, r1.1.2.1.2.2.2.2.2.2.1, r1.1.2.1.2.2.2.2.2.2.2.1, r1.1.2.1.2.2.2.2.2.2.2.2.1, ()), ()), ((), ())) := by kernel_rfl
theorem F28_eq (k : Nat) (a0_0 : Bool) (a0_1 : List Int) (a0_2 : Int) (a1 : Int) : F28 (k + 2) a0_0 a0_1 a0_2 a1 =
    (F55 k a0_0 a0_1 a1).bind fun r1 => if (decide (r1.1.1 < (0 : Int))) = true then some (((-1 : Int), ()), (((), (), (), ()), (), ())) else some ((r1.1.1, ()), (((), (), (), ()), (), ())) := by kernel_rfl
theorem F29_eq (k : Nat) (a0_0 : Int) (a0_1 : Bool) (a0_2 : Bool) (a0_3 : List Int) (a0_4 : Int) (a0_5 : Int) (a0_6 : Int) (a0_7 : Int) (a0_8 : ByteArray) : F29 (k + 2) a0_0 a0_1 a0_2 a0_3 a0_4 a0_5 a0_6 a0_7 a0_8 =
    (F56 k a0_0 (0 : Int) (5 : Int)).bind fun r1 => if (!r1.1.1) = true then some ((false, ()), (((), (), (), (), (), (), (), (), (), ()), ())) else (F57 k a0_0 a0_1 a0_2 a0_3 a0_4 a0_5 a0_6 a0_7 a0_8).bind fun r2 => if (!r2.1.1) = true then some ((false, ()), (((), (), (), (), (), (), (), (), (), ()), ())) else if (a0_0 == (2 : Int)) = true then (F58 k a0_2 a0_3 a0_4).bind fun r3 => some ((r3.1.1, ()), (((), (), (), (), (), (), (), (), (), ()), ())) else if (a0_0 == (3 : Int)) = true then (F59 k a0_5).bind fun r4 => some ((r4.1.1, ()), (((), (), (), (), (), (), (), (), (), ()), ())) else if (a0_0 == (4 : Int)) = true then (F60 k a0_6 a0_7).bind fun r5 => some ((r5.1.1, ()), (((), (), (), (), (), (), (), (), (), ()), ())) else (F61 k a0_8).bind fun r6 => some ((r6.1.1, ()), (((), (), (), (), (), (), (), (), (), ()), ())) := by kernel_rfl
theorem F30_eq (k : Nat) (a0_0 : Int) (a0_1 : Bool) (a0_2 : Bool) (a0_3 : List Int) (a0_4 : Int) (a0_5 : Int) (a0_6 : Int) (a0_7 : Int) (a0_8 : ByteArray) (a1_0 : Int) (a1_1 : Bool) (a1_2 : Bool) (a1_3 : List Int) (a1_4 : Int) (a1_5 : Int) (a1_6 : Int) (a1_7 : Int) (a1_8 : ByteArray) : F30 (k + 2) a0_0 a0_1 a0_2 a0_3 a0_4 a0_5 a0_6 a0_7 a0_8 a1_0 a1_1 a1_2 a1_3 a1_4 a1_5 a1_6 a1_7 a1_8 =
    if (a0_0 == (1 : Int)) = true then (F63 k a0_1).bind fun r1 => (F63 k a1_1).bind fun r2 => (F62 k r1.1.1 r2.1.1).bind fun r3 => some ((r3.1.1, ()), (((), (), (), (), (), (), (), (), (), ()), ((), (), (), (), (), (), (), (), (), ()), ())) else if (a0_0 == (2 : Int)) = true then (F64 k a0_2 a0_3 a0_4 a1_2 a1_3 a1_4).bind fun r4 => some ((r4.1.1, ()), (((), (), (), (), (), (), (), (), (), ()), ((), (), (), (), (), (), (), (), (), ()), ())) else if (a0_0 == (3 : Int)) = true then (F62 k a0_5 a1_5).bind fun r5 => some ((r5.1.1, ()), (((), (), (), (), (), (), (), (), (), ()), ((), (), (), (), (), (), (), (), (), ()), ())) else if (a0_0 == (4 : Int)) = true then if (a0_6 != a1_6) = true then (F62 k a0_6 a1_6).bind fun r6 => some ((r6.1.1, ()), (((), (), (), (), (), (), (), (), (), ()), ((), (), (), (), (), (), (), (), (), ()), ())) else (F62 k a0_7 a1_7).bind fun r7 => some ((r7.1.1, ()), (((), (), (), (), (), (), (), (), (), ()), ((), (), (), (), (), (), (), (), (), ()), ())) else (F65 k a0_8 a1_8).bind fun r8 => some ((r8.1.1, ()), (((), (), (), (), (), (), (), (), (), ()), ((), (), (), (), (), (), (), (), (), ()), ())) := by kernel_rfl
theorem F31_eq (k : Nat) (a0_0 : Bool) (a0_1 : List Int) (a0_2 : Int) : F31 (k + 2) a0_0 a0_1 a0_2 =
    (F66 k a0_0 a0_1).bind fun r1 => some (((r1.1.1.1, r1.1.1.2.1, a0_2, ()), ()), (((), (), (), ()), ())) := by kernel_rfl
theorem F32_eq (k : Nat) (a0_0 : Int) (a0_1 : Int) : F32 (k + 2) a0_0 a0_1 =
    some (((a0_0, a0_1, ()), ()), (((), (), ()), ())) := by kernel_rfl
theorem F33_eq (k : Nat) (a0_0 : Int) (a0_1 : Bool) (a0_2 : Bool) (a0_3 : List Int) (a0_4 : Int) (a0_5 : Int) (a0_6 : Int) (a0_7 : Int) (a0_8 : ByteArray) (a1_0 : Int) (a1_1 : Bool) (a1_2 : Bool) (a1_3 : List Int) (a1_4 : Int) (a1_5 : Int) (a1_6 : Int) (a1_7 : Int) (a1_8 : ByteArray) : F33 (k + 2) a0_0 a0_1 a0_2 a0_3 a0_4 a0_5 a0_6 a0_7 a0_8 a1_0 a1_1 a1_2 a1_3 a1_4 a1_5 a1_6 a1_7 a1_8 =
    if (a0_0 == (1 : Int)) = true then (F67 k a0_1).bind fun r1 => (F67 k a1_1).bind fun r2 => some (((IntKind.i64.wrap (r1.1.1 - r2.1.1)), ()), (((), (), (), (), (), (), (), (), (), ()), ((), (), (), (), (), (), (), (), (), ()), ())) else if (a0_0 == (2 : Int)) = true then (F68 k a0_2 a0_3 a0_4 a1_2 a1_3 a1_4).bind fun r3 => some ((r3.1.1, ()), (((), (), (), (), (), (), (), (), (), ()), ((), (), (), (), (), (), (), (), (), ()), ())) else if (a0_0 == (3 : Int)) = true then (F69 k a0_5 a1_5).bind fun r4 => some ((r4.1.1, ()), (((), (), (), (), (), (), (), (), (), ()), ((), (), (), (), (), (), (), (), (), ()), ())) else if (a0_0 == (4 : Int)) = true then (F69 k a0_6 a1_6).bind fun r5 => (F69 k a0_7 a1_7).bind fun r6 => (F70 k [r5.1.1, r6.1.1]).bind fun r7 => some ((r7.1.1, ()), (((), (), (), (), (), (), (), (), (), ()), ((), (), (), (), (), (), (), (), (), ()), ())) else if (a0_0 == (5 : Int)) = true then (F71 k a0_8 a1_8).bind fun r8 => some ((r8.1.1, ()), (((), (), (), (), (), (), (), (), (), ()), ((), (), (), (), (), (), (), (), (), ()), ())) else some (((0 : Int), ()), (((), (), (), (), (), (), (), (), (), ()), ((), (), (), (), (), (), (), (), (), ()), ())) := by kernel_rfl
theorem F34_eq (k : Nat) (a0_0 : Bool) (a0_1 : List Int) (a0_2 : Int) (a1_0 : Bool) (a1_1 : List Int) (a1_2 : Int) : F34 (k + 2) a0_0 a0_1 a0_2 a1_0 a1_1 a1_2 =
    (F72 k a0_0 a0_1 a1_0 a1_1).bind fun r1 => if (!r1.1.1) = true then some ((false, ()), (((), (), (), ()), ((), (), (), ()), ())) else if (a0_2 != a1_2) = true then some ((false, ()), (((), (), (), ()), ((), (), (), ()), ())) else some ((true, ()), (((), (), (), ()), ((), (), (), ()), ())) := by kernel_rfl
theorem F35_eq (k : Nat) (a0_0 : Int) (a0_1 : Int) (a1_0 : Int) (a1_1 : Int) : F35 (k + 2) a0_0 a0_1 a1_0 a1_1 =
    if (a0_0 != a1_0) = true then some ((false, ()), (((), (), ()), ((), (), ()), ())) else if (a0_1 != a1_1) = true then some ((false, ()), (((), (), ()), ((), (), ()), ())) else some ((true, ()), (((), (), ()), ((), (), ()), ())) := by kernel_rfl
theorem F36_eq (k : Nat) (a0_0 : Int) (a0_1 : Bool) (a0_2 : Bool) (a0_3 : List Int) (a0_4 : Int) (a0_5 : Int) (a0_6 : Int) (a0_7 : Int) (a0_8 : ByteArray) (a1_0 : Int) (a1_1 : Bool) (a1_2 : Bool) (a1_3 : List Int) (a1_4 : Int) (a1_5 : Int) (a1_6 : Int) (a1_7 : Int) (a1_8 : ByteArray) : F36 (k + 2) a0_0 a0_1 a0_2 a0_3 a0_4 a0_5 a0_6 a0_7 a0_8 a1_0 a1_1 a1_2 a1_3 a1_4 a1_5 a1_6 a1_7 a1_8 =
    if (a0_0 != a1_0) = true then (F62 k a0_0 a1_0).bind fun r1 => some ((r1.1.1, ()), (((), (), (), (), (), (), (), (), (), ()), ((), (), (), (), (), (), (), (), (), ()), ())) else (F30 k a0_0 a0_1 a0_2 a0_3 a0_4 a0_5 a0_6 a0_7 a0_8 a1_0 a1_1 a1_2 a1_3 a1_4 a1_5 a1_6 a1_7 a1_8).bind fun r2 => some ((r2.1.1, ()), (((), (), (), (), (), (), (), (), (), ()), ((), (), (), (), (), (), (), (), (), ()), ())) := by kernel_rfl
theorem F37_eq (k : Nat) (a0_0 : Int) (a0_1 : Bool) (a0_2 : Bool) (a0_3 : List Int) (a0_4 : Int) (a0_5 : Int) (a0_6 : Int) (a0_7 : Int) (a0_8 : ByteArray) (a1_0 : Int) (a1_1 : Bool) (a1_2 : Bool) (a1_3 : List Int) (a1_4 : Int) (a1_5 : Int) (a1_6 : Int) (a1_7 : Int) (a1_8 : ByteArray) : F37 (k + 2) a0_0 a0_1 a0_2 a0_3 a0_4 a0_5 a0_6 a0_7 a0_8 a1_0 a1_1 a1_2 a1_3 a1_4 a1_5 a1_6 a1_7 a1_8 =
    if (a0_0 != a1_0) = true then (F69 k a0_0 a1_0).bind fun r1 => some ((r1.1.1, ()), (((), (), (), (), (), (), (), (), (), ()), ((), (), (), (), (), (), (), (), (), ()), ())) else (F33 k a0_0 a0_1 a0_2 a0_3 a0_4 a0_5 a0_6 a0_7 a0_8 a1_0 a1_1 a1_2 a1_3 a1_4 a1_5 a1_6 a1_7 a1_8).bind fun r2 => some ((r2.1.1, ()), (((), (), (), (), (), (), (), (), (), ()), ((), (), (), (), (), (), (), (), (), ()), ())) := by kernel_rfl
theorem F45_eq (k : Nat) (a0 : Int) (a1 : Int) (a2 : Int) : F45 (k + 2) a0 a1 a2 =
    if (decide (a0 ≥ a1)) = true then some ((decide (a0 ≤ a2), ()), ((), (), (), ())) else some ((false, ()), ((), (), (), ())) := by kernel_rfl
theorem F47_eq (k : Nat) (a0 : List Int) : F47 (k + 2) a0 =
    if (decide ((a0.length : Int) > (2000 : Int))) = true then if (decide (0 ≤ (2000 : Int)) && decide ((2000 : Int) ≤ (a0.length : Int))) = true then F47c3 k (slices a0 0 2000) else none else F47c3 k a0 := by kernel_rfl
theorem F47c3_eq (k : Nat) (x0 : List Int) : F47c3 (k + 1) x0 =
    some (((x0, (0 : Int), ()), ()), ((), ())) := by kernel_rfl
theorem F48_eq (k : Nat) (a0_0 : List Int) (a0_1 : Int) : F48 (k + 2) a0_0 a0_1 =
    (F75 k a0_0 a0_1).bind fun r1 => (F49 k r1.2.1.1 r1.2.1.2.1 (30 : Int)).bind fun r2 => if (r2.1.1 == (0 : Int)) = true then (F76 k r2.2.1.1 r2.2.1.2.1 [(-1 : Int), (6 : Int), (1 : Int), (2 : Int)]).bind fun r3 => F48c15 k r3.2.1.1 r3.2.1.2.1 (0 : Int) false false ([] : List Int) (0 : Int) (0 : Int) (0 : Int) (0 : Int) ByteArray.empty r3.1.1 r1.1.1.2.1 r1.1.1.2.2.1 r1.1.1.2.2.2.1 r1.1.1.2.2.2.2.1 r1.1.1.2.2.2.2.2.1 r1.1.1.2.2.2.2.2.2.1 r1.1.1.2.2.2.2.2.2.2.1 r1.1.1.2.2.2.2.2.2.2.2.1 else if (r2.1.1 == (1 : Int)) = true then (F77 k r2.2.1.1 r2.2.1.2.1 [(⟨#[116, 104, 105, 114, 116, 101, 101, 110, 32, 98, 121, 116, 101]⟩ : ByteArray), (⟨#[97, 10]⟩ : ByteArray), (⟨#[127]⟩ : ByteArray), (⟨#[120]⟩ : ByteArray)]).bind fun r4 => F48c15 k r4.2.1.1 r4.2.1.2.1 (0 : Int) false false ([] : List Int) (0 : Int) (0 : Int) (0 : Int) (0 : Int) ByteArray.empty r1.1.1.1 r1.1.1.2.1 r1.1.1.2.2.1 r1.1.1.2.2.2.1 r1.1.1.2.2.2.2.1 r1.1.1.2.2.2.2.2.1 r1.1.1.2.2.2.2.2.2.1 r1.1.1.2.2.2.2.2.2.2.1 r4.1.1 else if (r2.1.1 == (2 : Int)) = true then (F78 k r2.2.1.1 r2.2.1.2.1).bind fun r5 => F48c15 k r5.2.1.1 r5.2.1.2.1 (0 : Int) false false ([] : List Int) (0 : Int) (0 : Int) (0 : Int) (0 : Int) ByteArray.empty r1.1.1.1 r1.1.1.2.1 r5.1.1.1 r5.1.1.2.1 r5.1.1.2.2.1 r1.1.1.2.2.2.2.2.1 r1.1.1.2.2.2.2.2.2.1 r1.1.1.2.2.2.2.2.2.2.1 r1.1.1.2.2.2.2.2.2.2.2.1 else if (r2.1.1 == (3 : Int)) = true then (F79 k r2.2.1.1 r2.2.1.2.1).bind fun r6 => F48c15 k r6.2.1.1 r6.2.1.2.1 (0 : Int) false false ([] : List Int) (0 : Int) (0 : Int) (0 : Int) (0 : Int) ByteArray.empty r1.1.1.1 r1.1.1.2.1 r1.1.1.2.2.1 r1.1.1.2.2.2.1 r1.1.1.2.2.2.2.1 r6.1.1 r1.1.1.2.2.2.2.2.2.1 r1.1.1.2.2.2.2.2.2.2.1 r1.1.1.2.2.2.2.2.2.2.2.1 else if (r2.1.1 == (4 : Int)) = true then F48c15 k r2.2.1.1 r2.2.1.2.1 (0 : Int) false false ([] : List Int) (0 : Int) (0 : Int) (0 : Int) (0 : Int) ByteArray.empty r1.1.1.1 true r1.1.1.2.2.1 r1.1.1.2.2.2.1 r1.1.1.2.2.2.2.1 r1.1.1.2.2.2.2.2.1 r1.1.1.2.2.2.2.2.2.1 r1.1.1.2.2.2.2.2.2.2.1 r1.1.1.2.2.2.2.2.2.2.2.1 else if (r2.1.1 == (5 : Int)) = true then (F80 k r2.2.1.1 r2.2.1.2.1).bind fun r7 => F48c15 k r7.2.1.1 r7.2.1.2.1 (0 : Int) false false ([] : List Int) (0 : Int) (0 : Int) (0 : Int) (0 : Int) ByteArray.empty r1.1.1.1 r1.1.1.2.1 r1.1.1.2.2.1 r1.1.1.2.2.2.1 r1.1.1.2.2.2.2.1 r1.1.1.2.2.2.2.2.1 r7.1.1.1 r7.1.1.2.1 r1.1.1.2.2.2.2.2.2.2.2.1 else F48c15 k r2.2.1.1 r2.2.1.2.1 (0 : Int) false false ([] : List Int) (0 : Int) (0 : Int) (0 : Int) (0 : Int) ByteArray.empty r1.1.1.1 r1.1.1.2.1 r1.1.1.2.2.1 r1.1.1.2.2.2.1 r1.1.1.2.2.2.2.1 r1.1.1.2.2.2.2.2.1 r1.1.1.2.2.2.2.2.2.1 r1.1.1.2.2.2.2.2.2.2.1 r1.1.1.2.2.2.2.2.2.2.2.1 := by kernel_rfl
theorem F48c15_eq (k : Nat) (x0_0 : List Int) (x0_1 : Int) (x2_0 : Int) (x2_1 : Bool) (x2_2 : Bool) (x2_3 : List Int) (x2_4 : Int) (x2_5 : Int) (x2_6 : Int) (x2_7 : Int) (x2_8 : ByteArray) (x3_0 : Int) (x3_1 : Bool) (x3_2 : Bool) (x3_3 : List Int) (x3_4 : Int) (x3_5 : Int) (x3_6 : Int) (x3_7 : Int) (x3_8 : ByteArray) : F48c15 (k + 1) x0_0 x0_1 x2_0 x2_1 x2_2 x2_3 x2_4 x2_5 x2_6 x2_7 x2_8 x3_0 x3_1 x3_2 x3_3 x3_4 x3_5 x3_6 x3_7 x3_8 =
    some (((x3_0, x3_1, x3_2, x3_3, x3_4, x3_5, x3_6, x3_7, x3_8, ()), ()), ((x0_0, x0_1, ()), ())) := by kernel_rfl
theorem F49_eq (k : Nat) (a0_0 : List Int) (a0_1 : Int) (a1 : Int) : F49 (k + 2) a0_0 a0_1 a1 =
    if (decide (a1 < (1 : Int))) = true then some (((0 : Int), ()), ((a0_0, (IntKind.i64.wrap (a0_1 + (1 : Int))), ()), (), ())) else if ((a0_0.length : Int) == (0 : Int)) = true then some (((0 : Int), ()), ((a0_0, (IntKind.i64.wrap (a0_1 + (1 : Int))), ()), (), ())) else if (decide ((IntKind.i64.wrap ((IntKind.i64.wrap (a0_1 + (1 : Int))) - (1 : Int))) < (a0_0.length : Int))) = true then if (decide (0 ≤ (IntKind.i64.wrap ((IntKind.i64.wrap (a0_1 + (1 : Int))) - (1 : Int))))) = true then (a0_0[(IntKind.i64.wrap ((IntKind.i64.wrap (a0_1 + (1 : Int))) - (1 : Int))).toNat]?).bind fun y1 => if (!(a1 == 0)) = true then some ((((IntKind.i64.wrap y1).tmod a1), ()), ((a0_0, (IntKind.i64.wrap (a0_1 + (1 : Int))), ()), (), ())) else none else none else if (!((a0_0.length : Int) == 0)) = true then if (decide (0 ≤ ((IntKind.i64.wrap ((IntKind.i64.wrap (a0_1 + (1 : Int))) - (1 : Int))).tmod (a0_0.length : Int)))) = true then (a0_0[((IntKind.i64.wrap ((IntKind.i64.wrap (a0_1 + (1 : Int))) - (1 : Int))).tmod (a0_0.length : Int)).toNat]?).bind fun y2 => if (!((a0_0.length : Int) == 0)) = true then if (decide (0 ≤ ((IntKind.i64.wrap ((IntKind.i64.wrap ((IntKind.i64.wrap ((IntKind.i64.wrap (a0_1 + (1 : Int))) - (1 : Int))) * (7 : Int))) + (3 : Int))).tmod (a0_0.length : Int)))) = true then (a0_0[((IntKind.i64.wrap ((IntKind.i64.wrap ((IntKind.i64.wrap ((IntKind.i64.wrap (a0_1 + (1 : Int))) - (1 : Int))) * (7 : Int))) + (3 : Int))).tmod (a0_0.length : Int)).toNat]?).bind fun y3 => if (!((a0_0.length : Int) == 0)) = true then if (!(a1 == 0)) = true then some ((((IntKind.i64.wrap (((BitVec.ofInt IntKind.i64.bits (IntKind.i64.wrap ((IntKind.i64.wrap ((IntKind.i64.wrap ((IntKind.i64.wrap ((IntKind.i64.wrap y2) * (131 : Int))) + (IntKind.i64.wrap ((IntKind.i64.wrap y3) * (1117 : Int))))) + (IntKind.i64.wrap ((IntKind.i64.wrap ((IntKind.i64.wrap (a0_1 + (1 : Int))) - (1 : Int))) * (29 : Int))))) + (IntKind.i64.wrap ((IntKind.i64.wrap ((IntKind.i64.wrap ((IntKind.i64.wrap (a0_1 + (1 : Int))) - (1 : Int))).tdiv (a0_0.length : Int))) * (53 : Int))))) ^^^ BitVec.ofInt IntKind.i64.bits (IntKind.i64.wrap ((IntKind.i64.wrap ((IntKind.i64.wrap ((IntKind.i64.wrap ((IntKind.i64.wrap ((IntKind.i64.wrap y2) * (131 : Int))) + (IntKind.i64.wrap ((IntKind.i64.wrap y3) * (1117 : Int))))) + (IntKind.i64.wrap ((IntKind.i64.wrap ((IntKind.i64.wrap (a0_1 + (1 : Int))) - (1 : Int))) * (29 : Int))))) + (IntKind.i64.wrap ((IntKind.i64.wrap ((IntKind.i64.wrap ((IntKind.i64.wrap (a0_1 + (1 : Int))) - (1 : Int))).tdiv (a0_0.length : Int))) * (53 : Int))))).tdiv (64 : Int)))).toNat : Int))).tmod a1), ()), ((a0_0, (IntKind.i64.wrap (a0_1 + (1 : Int))), ()), (), ())) else none else none else none else none else none else none := by kernel_rfl
theorem F50_eq (k : Nat) (a0_0 : List Int) (a0_1 : Int) (a1 : Int) : F50 (k + 2) a0_0 a0_1 a1 =
    if (a1 == (1 : Int)) = true then (F49 k a0_0 a0_1 (2 : Int)).bind fun r1 => (F81 k (r1.1.1 == (0 : Int))).bind fun r2 => some (((r2.1.1.1, r2.1.1.2.1, r2.1.1.2.2.1, r2.1.1.2.2.2.1, r2.1.1.2.2.2.2.1, r2.1.1.2.2.2.2.2.1, r2.1.1.2.2.2.2.2.2.1, r2.1.1.2.2.2.2.2.2.2.1, r2.1.1.2.2.2.2.2.2.2.2.1, ()), ()), ((r1.2.1.1, r1.2.1.2.1, ()), (), ())) else if (a1 == (2 : Int)) = true then (F83 k a0_0 a0_1).bind fun r3 => (F82 k r3.1.1.1 r3.1.1.2.1 r3.1.1.2.2.1).bind fun r4 => some (((r4.1.1.1, r4.1.1.2.1, r4.1.1.2.2.1, r4.1.1.2.2.2.1, r4.1.1.2.2.2.2.1, r4.1.1.2.2.2.2.2.1, r4.1.1.2.2.2.2.2.2.1, r4.1.1.2.2.2.2.2.2.2.1, r4.1.1.2.2.2.2.2.2.2.2.1, ()), ()), ((r3.2.1.1, r3.2.1.2.1, ()), (), ())) else if (a1 == (3 : Int)) = true then (F84 k a0_0 a0_1).bind fun r5 => some (((a1, false, false, ([] : List Int), (0 : Int), r5.1.1, (0 : Int), (0 : Int), ByteArray.empty, ()), ()), ((r5.2.1.1, r5.2.1.2.1, ()), (), ())) else if (a1 == (4 : Int)) = true then (F85 k a0_0 a0_1).bind fun r6 => some (((a1, false, false, ([] : List Int), (0 : Int), (0 : Int), r6.1.1.1, r6.1.1.2.1, ByteArray.empty, ()), ()), ((r6.2.1.1, r6.2.1.2.1, ()), (), ())) else if (a1 == (5 : Int)) = true then (F86 k a0_0 a0_1).bind fun r7 => some (((a1, false, false, ([] : List Int), (0 : Int), (0 : Int), (0 : Int), (0 : Int), r7.1.1, ()), ()), ((r7.2.1.1, r7.2.1.2.1, ()), (), ())) else some ((((0 : Int), false, false, ([] : List Int), (0 : Int), (0 : Int), (0 : Int), (0 : Int), ByteArray.empty, ()), ()), ((a0_0, a0_1, ()), (), ())) := by kernel_rfl
theorem F51_eq (k : Nat) (a0_0 : Bool) (a0_1 : List Int) (a0_2 : Int) : F51 (k + 2) a0_0 a0_1 a0_2 =
    (F87 k a0_0 a0_1).bind fun r1 => if r1.1.1 = true then (F88 k a0_1).bind fun r2 => if (decide (r2.1.1 ≤ (30 : Int))) = true then (F45 k a0_2 (0 : Int) (12 : Int)).bind fun r3 => some ((r3.1.1, ()), (((), (), (), ()), ())) else some ((false, ()), (((), (), (), ()), ())) else some ((false, ()), (((), (), (), ()), ())) := by kernel_rfl
theorem F52_eq (k : Nat) (a0 : Int) : F52 (k + 2) a0 =
    (F45 k a0 (1 : Int) (3652059 : Int)).bind fun r1 => some ((r1.1.1, ()), ((), ())) := by kernel_rfl
theorem F53_eq (k : Nat) (a0_0 : Int) (a0_1 : Int) : F53 (k + 2) a0_0 a0_1 =
    (F45 k a0_0 (-120000 : Int) (120000 : Int)).bind fun r1 => if r1.1.1 = true then (F45 k a0_1 (-4000000 : Int) (4000000 : Int)).bind fun r2 => some ((r2.1.1, ()), (((), (), ()), ())) else some ((false, ()), (((), (), ()), ())) := by kernel_rfl
theorem F54_eq (k : Nat) (a0_0 : Bool) (a0_1 : List Int) (a0_2 : Int) : F54 (k + 2) a0_0 a0_1 a0_2 =
    if (!a0_0) = true then if ((a0_1.length : Int) == (0 : Int)) = true then some (((a0_2 == (0 : Int)), ()), (((), (), (), ()), ())) else some ((false, ()), (((), (), (), ()), ())) else some ((false, ()), (((), (), (), ()), ())) := by kernel_rfl
theorem F55_eq (k : Nat) (a0_0 : Bool) (a0_1 : List Int) (a1 : Int) : F55 (k + 2) a0_0 a0_1 a1 =
    (F89 k a0_1 a1).bind fun r1 => if (decide (r1.1.1 < (0 : Int))) = true then some (((-1 : Int), ()), (((), (), ()), (), ())) else some ((r1.1.1, ()), (((), (), ()), (), ())) := by kernel_rfl
theorem F56_eq (k : Nat) (a0 : Int) (a1 : Int) (a2 : Int) : F56 (k + 2) a0 a1 a2 =
    if (decide (a0 ≥ a1)) = true then some ((decide (a0 ≤ a2), ()), ((), (), (), ())) else some ((false, ()), ((), (), (), ())) := by kernel_rfl
theorem F57_eq (k : Nat) (a0_0 : Int) (a0_1 : Bool) (a0_2 : Bool) (a0_3 : List Int) (a0_4 : Int) (a0_5 : Int) (a0_6 : Int) (a0_7 : Int) (a0_8 : ByteArray) : F57 (k + 2) a0_0 a0_1 a0_2 a0_3 a0_4 a0_5 a0_6 a0_7 a0_8 =
    if (a0_0 != (1 : Int)) = true then if a0_1 = true then some ((false, ()), (((), (), (), (), (), (), (), (), (), ()), ())) else if (a0_0 != (2 : Int)) = true then (F90 k a0_2 a0_3 a0_4).bind fun r1 => if (!r1.1.1) = true then some ((false, ()), (((), (), (), (), (), (), (), (), (), ()), ())) else if (a0_0 != (4 : Int)) = true then if (a0_6 != (0 : Int)) = true then some ((false, ()), (((), (), (), (), (), (), (), (), (), ()), ())) else if (a0_7 != (0 : Int)) = true then some ((false, ()), (((), (), (), (), (), (), (), (), (), ()), ())) else if (a0_0 == (3 : Int)) = true then if (a0_0 == (5 : Int)) = true then some ((true, ()), (((), (), (), (), (), (), (), (), (), ()), ())) else some (((a0_8.toList == (⟨#[]⟩ : ByteArray).toList), ()), (((), (), (), (), (), (), (), (), (), ()), ())) else if (a0_5 == (0 : Int)) = true then if (a0_0 == (5 : Int)) = true then some ((true, ()), (((), (), (), (), (), (), (), (), (), ()), ())) else some (((a0_8.toList == (⟨#[]⟩ : ByteArray).toList), ()), (((), (), (), (), (), (), (), (), (), ()), ())) else some ((false, ()), (((), (), (), (), (), (), (), (), (), ()), ())) else if (a0_0 == (3 : Int)) = true then if (a0_0 == (5 : Int)) = true then some ((true, ()), (((), (), (), (), (), (), (), (), (), ()), ())) else some (((a0_8.toList == (⟨#[]⟩ : ByteArray).toList), ()), (((), (), (), (), (), (), (), (), (), ()), ())) else if (a0_5 == (0 : Int)) = true then if (a0_0 == (5 : Int)) = true then some ((true, ()), (((), (), (), (), (), (), (), (), (), ()), ())) else some (((a0_8.toList == (⟨#[]⟩ : ByteArray).toList), ()), (((), (), (), (), (), (), (), (), (), ()), ())) else some ((false, ()), (((), (), (), (), (), (), (), (), (), ()), ())) else if (a0_0 != (4 : Int)) = true then if (a0_6 != (0 : Int)) = true then some ((false, ()), (((), (), (), (), (), (), (), (), (), ()), ())) else if (a0_7 != (0 : Int)) = true then some ((false, ()), (((), (), (), (), (), (), (), (), (), ()), ())) else if (a0_0 == (3 : Int)) = true then if (a0_0 == (5 : Int)) = true then some ((true, ()), (((), (), (), (), (), (), (), (), (), ()), ())) else some (((a0_8.toList == (⟨#[]⟩ : ByteArray).toList), ()), (((), (), (), (), (), (), (), (), (), ()), ())) else if (a0_5 == (0 : Int)) = true then if (a0_0 == (5 : Int)) = true then some ((true, ()), (((), (), (), (), (), (), (), (), (), ()), ())) else some (((a0_8.toList == (⟨#[]⟩ : ByteArray).toList), ()), (((), (), (), (), (), (), (), (), (), ()), ())) else some ((false, ()), (((), (), (), (), (), (), (), (), (), ()), ())) else if (a0_0 == (3 : Int)) = true then if (a0_0 == (5 : Int)) = true then some ((true, ()), (((), (), (), (), (), (), (), (), (), ()), ())) else some (((a0_8.toList == (⟨#[]⟩ : ByteArray).toList), ()), (((), (), (), (), (), (), (), (), (), ()), ())) else if (a0_5 == (0 : Int)) = true then if (a0_0 == (5 : Int)) = true then some ((true, ()), (((), (), (), (), (), (), (), (), (), ()), ())) else some (((a0_8.toList == (⟨#[]⟩ : ByteArray).toList), ()), (((), (), (), (), (), (), (), (), (), ()), ())) else some ((false, ()), (((), (), (), (), (), (), (), (), (), ()), ())) else if (a0_0 != (2 : Int)) = true then (F90 k a0_2 a0_3 a0_4).bind fun r2 => if (!r2.1.1) = true then some ((false, ()), (((), (), (), (), (), (), (), (), (), ()), ())) else if (a0_0 != (4 : Int)) = true then if (a0_6 != (0 : Int)) = true then some ((false, ()), (((), (), (), (), (), (), (), (), (), ()), ())) else if (a0_7 != (0 : Int)) = true then some ((false, ()), (((), (), (), (), (), (), (), (), (), ()), ())) else if (a0_0 == (3 : Int)) = true then if (a0_0 == (5 : Int)) = true then some ((true, ()), (((), (), (), (), (), (), (), (), (), ()), ())) else some (((a0_8.toList == (⟨#[]⟩ : ByteArray).toList), ()), (((), (), (), (), (), (), (), (), (), ()), ())) else if (a0_5 == (0 : Int)) = true then if (a0_0 == (5 : Int)) = true then some ((true, ()), (((), (), (), (), (), (), (), (), (), ()), ())) else some (((a0_8.toList == (⟨#[]⟩ : ByteArray).toList), ()), (((), (), (), (), (), (), (), (), (), ()), ())) else some ((false, ()), (((), (), (), (), (), (), (), (), (), ()), ())) else if (a0_0 == (3 : Int)) = true then if (a0_0 == (5 : Int)) = true then some ((true, ()), (((), (), (), (), (), (), (), (), (), ()), ())) else some (((a0_8.toList == (⟨#[]⟩ : ByteArray).toList), ()), (((), (), (), (), (), (), (), (), (), ()), ())) else if (a0_5 == (0 : Int)) = true then if (a0_0 == (5 : Int)) = true then some ((true, ()), (((), (), (), (), (), (), (), (), (), ()), ())) else some (((a0_8.toList == (⟨#[]⟩ : ByteArray).toList), ()), (((), (), (), (), (), (), (), (), (), ()), ())) else some ((false, ()), (((), (), (), (), (), (), (), (), (), ()), ())) else if (a0_0 != (4 : Int)) = true then if (a0_6 != (0 : Int)) = true then some ((false, ()), (((), (), (), (), (), (), (), (), (), ()), ())) else if (a0_7 != (0 : Int)) = true then some ((false, ()), (((), (), (), (), (), (), (), (), (), ()), ())) else if (a0_0 == (3 : Int)) = true then if (a0_0 == (5 : Int)) = true then some ((true, ()), (((), (), (), (), (), (), (), (), (), ()), ())) else some (((a0_8.toList == (⟨#[]⟩ : ByteArray).toList), ()), (((), (), (), (), (), (), (), (), (), ()), ())) else if (a0_5 == (0 : Int)) = true then if (a0_0 == (5 : Int)) = true then some ((true, ()), (((), (), (), (), (), (), (), (), (), ()), ())) else some (((a0_8.toList == (⟨#[]⟩ : ByteArray).toList), ()), (((), (), (), (), (), (), (), (), (), ()), ())) else some ((false, ()), (((), (), (), (), (), (), (), (), (), ()), ())) else if (a0_0 == (3 : Int)) = true then if (a0_0 == (5 : Int)) = true then some ((true, ()), (((), (), (), (), (), (), (), (), (), ()), ())) else some (((a0_8.toList == (⟨#[]⟩ : ByteArray).toList), ()), (((), (), (), (), (), (), (), (), (), ()), ())) else if (a0_5 == (0 : Int)) = true then if (a0_0 == (5 : Int)) = true then some ((true, ()), (((), (), (), (), (), (), (), (), (), ()), ())) else some (((a0_8.toList == (⟨#[]⟩ : ByteArray).toList), ()), (((), (), (), (), (), (), (), (), (), ()), ())) else some ((false, ()), (((), (), (), (), (), (), (), (), (), ()), ())) := by kernel_rfl
theorem F58_eq (k : Nat) (a0_0 : Bool) (a0_1 : List Int) (a0_2 : Int) : F58 (k + 2) a0_0 a0_1 a0_2 =
    (F91 k a0_0 a0_1).bind fun r1 => if r1.1.1 = true then (F92 k a0_1).bind fun r2 => if (decide (r2.1.1 ≤ (30 : Int))) = true then (F56 k a0_2 (0 : Int) (12 : Int)).bind fun r3 => some ((r3.1.1, ()), (((), (), (), ()), ())) else some ((false, ()), (((), (), (), ()), ())) else some ((false, ()), (((), (), (), ()), ())) := by kernel_rfl
theorem F59_eq (k : Nat) (a0 : Int) : F59 (k + 2) a0 =
    (F56 k a0 (1 : Int) (3652059 : Int)).bind fun r1 => some ((r1.1.1, ()), ((), ())) := by kernel_rfl
theorem F60_eq (k : Nat) (a0_0 : Int) (a0_1 : Int) : F60 (k + 2) a0_0 a0_1 =
    (F56 k a0_0 (-120000 : Int) (120000 : Int)).bind fun r1 => if r1.1.1 = true then (F56 k a0_1 (-4000000 : Int) (4000000 : Int)).bind fun r2 => some ((r2.1.1, ()), (((), (), ()), ())) else some ((false, ()), (((), (), ()), ())) := by kernel_rfl
theorem F61_eq (k : Nat) (a0 : ByteArray) : F61 (k + 2) a0 =
    F61c2 k a0 (0 : Int) := by kernel_rfl
theorem F61c2_eq (k : Nat) (x0 : ByteArray) (x3 : Int) : F61c2 (k + 1) x0 x3 =
    if (decide (x3 < (x0.size : Int))) = true then if (decide (0 ≤ x3)) = true then (x0[x3.toNat]?).bind fun u1 => if (decide ((u1.toNat : Int) < (32 : Int))) = true then some ((false, ()), ((), ())) else if (decide (0 ≤ x3)) = true then (x0[x3.toNat]?).bind fun u2 => if (decide ((u2.toNat : Int) > (126 : Int))) = true then some ((false, ()), ((), ())) else F61c2 k x0 (IntKind.i64.wrap (x3 + (1 : Int))) else none else none else some ((decide ((x0.size : Int) ≤ (12 : Int)), ()), ((), ())) := by kernel_rfl
theorem F62_eq (k : Nat) (a0 : Int) (a1 : Int) : F62 (k + 2) a0 a1 =
    if (decide (a0 < a1)) = true then some (((-1 : Int), ()), ((), (), ())) else if (decide (a0 > a1)) = true then some (((1 : Int), ()), ((), (), ())) else some (((0 : Int), ()), ((), (), ())) := by kernel_rfl
theorem F63_eq (k : Nat) (a0 : Bool) : F63 (k + 2) a0 =
    if a0 = true then some (((1 : Int), ()), ((), ())) else some (((0 : Int), ()), ((), ())) := by kernel_rfl
theorem F64_eq (k : Nat) (a0_0 : Bool) (a0_1 : List Int) (a0_2 : Int) (a1_0 : Bool) (a1_1 : List Int) (a1_2 : Int) : F64 (k + 2) a0_0 a0_1 a0_2 a1_0 a1_1 a1_2 =
    (F93 k a0_2 a1_2).bind fun r1 => (F94 k a0_0 a0_1 a0_2 r1.1.1).bind fun r2 => (F94 k a1_0 a1_1 a1_2 r1.1.1).bind fun r3 => (F95 k a0_0 r2.1.1 a1_0 r3.1.1).bind fun r4 => some ((r4.1.1, ()), (((), (), (), ()), ((), (), (), ()), ())) := by kernel_rfl
theorem F65_eq (k : Nat) (a0 : ByteArray) (a1 : ByteArray) : F65 (k + 2) a0 a1 =
    if (Op.bytesLess a0.toList a1.toList) = true then some (((-1 : Int), ()), ((), (), ())) else if (!(Op.bytesLess a0.toList a1.toList || a0.toList == a1.toList)) = true then some (((1 : Int), ()), ((), (), ())) else some (((0 : Int), ()), ((), (), ())) := by kernel_rfl
theorem F66_eq (k : Nat) (a0_0 : Bool) (a0_1 : List Int) : F66 (k + 2) a0_0 a0_1 =
    (F18 k a0_1).bind fun r1 => some (((a0_0, r1.1.1, ()), ()), (((), (), ()), ())) := by kernel_rfl
theorem F67_eq (k : Nat) (a0 : Bool) : F67 (k + 2) a0 =
    if a0 = true then some (((1 : Int), ()), ((), ())) else some (((0 : Int), ()), ((), ())) := by kernel_rfl
theorem F68_eq (k : Nat) (a0_0 : Bool) (a0_1 : List Int) (a0_2 : Int) (a1_0 : Bool) (a1_1 : List Int) (a1_2 : Int) : F68 (k + 2) a0_0 a0_1 a0_2 a1_0 a1_1 a1_2 =
    (F96 k a0_0 a0_1 a0_2 (if a1_2 > a0_2 then a1_2 else a0_2)).bind fun r1 => (F96 k a1_0 a1_1 a1_2 (if a1_2 > a0_2 then a1_2 else a0_2)).bind fun r2 => (F98 k r2.1.1.1 r2.1.1.2.1).bind fun r3 => (F97 k r1.1.1.1 r1.1.1.2.1 r3.1.1.1 r3.1.1.2.1).bind fun r4 => (F99 k r4.1.1.1 r4.1.1.2.1).bind fun r5 => some ((r5.1.1, ()), (((), (), (), ()), ((), (), (), ()), ())) := by kernel_rfl
theorem F69_eq (k : Nat) (a0 : Int) (a1 : Int) : F69 (k + 2) a0 a1 =
    (F100 k a0).bind fun r1 => (F100 k a1).bind fun r2 => if r1.1.1 = true then if r2.1.1 = true then some (((0 : Int), ()), ((), (), ())) else some (((-1 : Int), ()), ((), (), ())) else if r2.1.1 = true then some (((1 : Int), ()), ((), (), ())) else if (decide (a0 < a1)) = true then some (((-1 : Int), ()), ((), (), ())) else if (decide (a0 > a1)) = true then some (((1 : Int), ()), ((), (), ())) else some (((0 : Int), ()), ((), (), ())) := by kernel_rfl
theorem F70_eq (k : Nat) (a0 : List Int) : F70 (k + 2) a0 =
    F70c3 k (0 : Int) a0 (a0.length : Int) (0 : Int) := by kernel_rfl
theorem F70c3_eq (k : Nat) (x3 : Int) (x6 : List Int) (x7 : Int) (x8 : Int) : F70c3 (k + 1) x3 x6 x7 x8 =
    if (decide (x8 < x7)) = true then if (decide (0 ≤ x8)) = true then (x6[x8.toNat]?).bind fun y1 => if (y1 != x3) = true then some ((y1, ()), ((), ())) else F70c3 k x3 x6 x7 (IntKind.i64.wrap (x8 + (1 : Int))) else none else some ((x3, ()), ((), ())) := by kernel_rfl
theorem F71_eq (k : Nat) (a0 : ByteArray) (a1 : ByteArray) : F71 (k + 1) a0 a1 = compareR (a0, a1, ()) := by kernel_rfl
theorem F72_eq (k : Nat) (a0_0 : Bool) (a0_1 : List Int) (a1_0 : Bool) (a1_1 : List Int) : F72 (k + 2) a0_0 a0_1 a1_0 a1_1 =
    if (!(a0_0 == a1_0)) = true then some ((false, ()), (((), (), ()), ((), (), ()), ())) else (F22 k a0_1 a1_1).bind fun r1 => if (!r1.1.1) = true then some ((false, ()), (((), (), ()), ((), (), ()), ())) else some ((true, ()), (((), (), ()), ((), (), ()), ())) := by kernel_rfl
theorem F75_eq (k : Nat) (a0_0 : List Int) (a0_1 : Int) : F75 (k + 2) a0_0 a0_1 =
    (F49 k a0_0 a0_1 (6 : Int)).bind fun r1 => (F50 k r1.2.1.1 r1.2.1.2.1 r1.1.1).bind fun r2 => some (((r2.1.1.1, r2.1.1.2.1, r2.1.1.2.2.1, r2.1.1.2.2.2.1, r2.1.1.2.2.2.2.1, r2.1.1.2.2.2.2.2.1, r2.1.1.2.2.2.2.2.2.1, r2.1.1.2.2.2.2.2.2.2.1, r2.1.1.2.2.2.2.2.2.2.2.1, ()), ()), ((r2.2.1.1, r2.2.1.2.1, ()), ())) := by kernel_rfl
theorem F76_eq (k : Nat) (a0_0 : List Int) (a0_1 : Int) (a1 : List Int) : F76 (k + 2) a0_0 a0_1 a1 =
    (F49 k a0_0 a0_1 (a1.length : Int)).bind fun r1 => if (decide (0 ≤ r1.1.1) && decide (r1.1.1 < (a1.length : Int))) = true then (a1[r1.1.1.toNat]?).bind fun y2 => some ((y2, ()), ((r1.2.1.1, r1.2.1.2.1, ()), (), ())) else none := by kernel_rfl
theorem F77_eq (k : Nat) (a0_0 : List Int) (a0_1 : Int) (a1 : List ByteArray) : F77 (k + 2) a0_0 a0_1 a1 =
    (F49 k a0_0 a0_1 (a1.length : Int)).bind fun r1 => if (decide (0 ≤ r1.1.1) && decide (r1.1.1 < (a1.length : Int))) = true then (a1[r1.1.1.toNat]?).bind fun y2 => some ((y2, ()), ((r1.2.1.1, r1.2.1.2.1, ()), (), ())) else none := by kernel_rfl
theorem F78_eq (k : Nat) (a0_0 : List Int) (a0_1 : Int) : F78 (k + 2) a0_0 a0_1 =
    (F83 k a0_0 a0_1).bind fun r1 => (F49 k r1.2.1.1 r1.2.1.2.1 (30 : Int)).bind fun r2 => if (r2.1.1 == (0 : Int)) = true then (F76 k r2.2.1.1 r2.2.1.2.1 [(-1 : Int), (13 : Int), (4611686018427387904 : Int)]).bind fun r3 => F78c9 k r3.2.1.1 r3.2.1.2.1 false ([] : List Int) (0 : Int) r1.1.1.1 r1.1.1.2.1 r3.1.1 else if (r2.1.1 == (1 : Int)) = true then (F102 k r2.2.1.1 r2.2.1.2.1 (31 : Int)).bind fun r4 => F78c9 k r4.2.1.1 r4.2.1.2.1 false ([] : List Int) (0 : Int) r4.1.1.1 r4.1.1.2.1 r1.1.1.2.2.1 else if (r2.1.1 == (2 : Int)) = true then (F103 k r2.2.1.1 r2.2.1.2.1).bind fun r5 => F78c9 k r5.2.1.1 r5.2.1.2.1 false ([] : List Int) (0 : Int) r5.1.1.1 r5.1.1.2.1 r1.1.1.2.2.1 else F78c9 k r2.2.1.1 r2.2.1.2.1 false ([] : List Int) (0 : Int) r1.1.1.1 r1.1.1.2.1 r1.1.1.2.2.1 := by kernel_rfl
theorem F78c9_eq (k : Nat) (x0_0 : List Int) (x0_1 : Int) (x2_0 : Bool) (x2_1 : List Int) (x2_2 : Int) (x3_0 : Bool) (x3_1 : List Int) (x3_2 : Int) : F78c9 (k + 1) x0_0 x0_1 x2_0 x2_1 x2_2 x3_0 x3_1 x3_2 =
    some (((x3_0, x3_1, x3_2, ()), ()), ((x0_0, x0_1, ()), ())) := by kernel_rfl
theorem F79_eq (k : Nat) (a0_0 : List Int) (a0_1 : Int) : F79 (k + 2) a0_0 a0_1 =
    (F49 k a0_0 a0_1 (20 : Int)).bind fun r1 => if (r1.1.1 == (0 : Int)) = true then (F76 k r1.2.1.1 r1.2.1.2.1 [(0 : Int), (-1 : Int), (3652060 : Int)]).bind fun r2 => some ((r2.1.1, ()), ((r2.2.1.1, r2.2.1.2.1, ()), ())) else (F84 k r1.2.1.1 r1.2.1.2.1).bind fun r3 => some ((r3.1.1, ()), ((r3.2.1.1, r3.2.1.2.1, ()), ())) := by kernel_rfl
theorem F80_eq (k : Nat) (a0_0 : List Int) (a0_1 : Int) : F80 (k + 2) a0_0 a0_1 =
    (F85 k a0_0 a0_1).bind fun r1 => (F49 k r1.2.1.1 r1.2.1.2.1 (20 : Int)).bind fun r2 => if (r2.1.1 == (0 : Int)) = true then (F76 k r2.2.1.1 r2.2.1.2.1 [(120001 : Int), (-120001 : Int)]).bind fun r3 => F80c4 k r3.2.1.1 r3.2.1.2.1 (0 : Int) (0 : Int) r3.1.1 r1.1.1.2.1 else F80c4 k r2.2.1.1 r2.2.1.2.1 (0 : Int) (0 : Int) r1.1.1.1 r1.1.1.2.1 := by kernel_rfl
theorem F80c4_eq (k : Nat) (x0_0 : List Int) (x0_1 : Int) (x2_0 : Int) (x2_1 : Int) (x3_0 : Int) (x3_1 : Int) : F80c4 (k + 1) x0_0 x0_1 x2_0 x2_1 x3_0 x3_1 =
    (F49 k x0_0 x0_1 (20 : Int)).bind fun r4 => if (r4.1.1 == (0 : Int)) = true then (F76 k r4.2.1.1 r4.2.1.2.1 [(4000001 : Int), (-4000001 : Int)]).bind fun r5 => F80c6 k r5.2.1.1 r5.2.1.2.1 x2_0 x2_1 x3_0 r5.1.1 else F80c6 k r4.2.1.1 r4.2.1.2.1 x2_0 x2_1 x3_0 x3_1 := by kernel_rfl
theorem F80c6_eq (k : Nat) (x0_0 : List Int) (x0_1 : Int) (x2_0 : Int) (x2_1 : Int) (x3_0 : Int) (x3_1 : Int) : F80c6 (k + 1) x0_0 x0_1 x2_0 x2_1 x3_0 x3_1 =
    some (((x3_0, x3_1, ()), ()), ((x0_0, x0_1, ()), ())) := by kernel_rfl
theorem F81_eq (k : Nat) (a0 : Bool) : F81 (k + 2) a0 =
    some ((((1 : Int), a0, false, ([] : List Int), (0 : Int), (0 : Int), (0 : Int), (0 : Int), ByteArray.empty, ()), ()), ((), ())) := by kernel_rfl
theorem F82_eq (k : Nat) (a0_0 : Bool) (a0_1 : List Int) (a0_2 : Int) : F82 (k + 2) a0_0 a0_1 a0_2 =
    some ((((2 : Int), false, a0_0, a0_1, a0_2, (0 : Int), (0 : Int), (0 : Int), ByteArray.empty, ()), ()), (((), (), (), ()), ())) := by kernel_rfl
theorem F83_eq (k : Nat) (a0_0 : List Int) (a0_1 : Int) : F83 (k + 2) a0_0 a0_1 =
    (F49 k a0_0 a0_1 (13 : Int)).bind fun r1 => (F76 k r1.2.1.1 r1.2.1.2.1 [(0 : Int), (0 : Int), (1 : Int), (2 : Int), (2 : Int), (3 : Int), (6 : Int), (12 : Int), r1.1.1]).bind fun r2 => (F49 k r2.2.1.1 r2.2.1.2.1 (5 : Int)).bind fun r3 => if (r3.1.1 == (0 : Int)) = true then (F49 k r3.2.1.1 r3.2.1.2.1 (200 : Int)).bind fun r4 => (F104 k (IntKind.i64.wrap (r4.1.1 - (100 : Int)))).bind fun r5 => some (((r5.1.1.1, r5.1.1.2.1, r2.1.1, ()), ()), ((r4.2.1.1, r4.2.1.2.1, ()), ())) else if (r3.1.1 == (1 : Int)) = true then (F76 k r3.2.1.1 r3.2.1.2.1 [(5 : Int), (15 : Int), (25 : Int), (35 : Int), (45 : Int), (-5 : Int), (-15 : Int), (-25 : Int), (50 : Int), (150 : Int), (250 : Int), (499 : Int), (500 : Int), (501 : Int), (-500 : Int), (1500 : Int), (2500 : Int), (-2500 : Int), (1000 : Int), (20 : Int)]).bind fun r6 => (F104 k r6.1.1).bind fun r7 => some (((r7.1.1.1, r7.1.1.2.1, r2.1.1, ()), ()), ((r6.2.1.1, r6.2.1.2.1, ()), ())) else if (r3.1.1 == (2 : Int)) = true then (F102 k r3.2.1.1 r3.2.1.2.1 (8 : Int)).bind fun r8 => some (((r8.1.1.1, r8.1.1.2.1, r2.1.1, ()), ()), ((r8.2.1.1, r8.2.1.2.1, ()), ())) else (F102 k r3.2.1.1 r3.2.1.2.1 (30 : Int)).bind fun r9 => some (((r9.1.1.1, r9.1.1.2.1, r2.1.1, ()), ()), ((r9.2.1.1, r9.2.1.2.1, ()), ())) := by kernel_rfl
theorem F84_eq (k : Nat) (a0_0 : List Int) (a0_1 : Int) : F84 (k + 2) a0_0 a0_1 =
    (F49 k a0_0 a0_1 (6 : Int)).bind fun r1 => if (r1.1.1 == (0 : Int)) = true then (F76 k r1.2.1.1 r1.2.1.2.1 [(1 : Int), (2 : Int), (31 : Int), (59 : Int), (60 : Int), (3652059 : Int), (3652058 : Int), (366 : Int)]).bind fun r2 => some ((r2.1.1, ()), ((r2.2.1.1, r2.2.1.2.1, ()), ())) else if (r1.1.1 == (1 : Int)) = true then (F76 k r1.2.1.1 r1.2.1.2.1 [(4 : Int), (1900 : Int), (2000 : Int), (2023 : Int), (2024 : Int), (2100 : Int), (9999 : Int)]).bind fun r3 => (F76 k r3.2.1.1 r3.2.1.2.1 [(1 : Int), (2 : Int), (2 : Int), (3 : Int), (12 : Int)]).bind fun r4 => (F105 k r3.1.1 r4.1.1 (28 : Int)).bind fun r5 => some ((r5.1.1, ()), ((r4.2.1.1, r4.2.1.2.1, ()), ())) else if (r1.1.1 == (2 : Int)) = true then (F76 k r1.2.1.1 r1.2.1.2.1 [(4 : Int), (2000 : Int), (2024 : Int), (9996 : Int)]).bind fun r6 => (F105 k r6.1.1 (2 : Int) (29 : Int)).bind fun r7 => some ((r7.1.1, ()), ((r6.2.1.1, r6.2.1.2.1, ()), ())) else if (r1.1.1 == (3 : Int)) = true then (F76 k r1.2.1.1 r1.2.1.2.1 [(1 : Int), (2023 : Int), (2024 : Int), (9999 : Int)]).bind fun r8 => (F76 k r8.2.1.1 r8.2.1.2.1 [(1 : Int), (3 : Int), (5 : Int), (8 : Int), (10 : Int), (12 : Int)]).bind fun r9 => (F105 k r8.1.1 r9.1.1 (31 : Int)).bind fun r10 => some ((r10.1.1, ()), ((r9.2.1.1, r9.2.1.2.1, ()), ())) else (F49 k r1.2.1.1 r1.2.1.2.1 (8 : Int)).bind fun r11 => (F49 k r11.2.1.1 r11.2.1.2.1 (12 : Int)).bind fun r12 => (F49 k r12.2.1.1 r12.2.1.2.1 (28 : Int)).bind fun r13 => (F105 k (IntKind.i64.wrap ((2020 : Int) + r11.1.1)) (IntKind.i64.wrap ((1 : Int) + r12.1.1)) (IntKind.i64.wrap ((1 : Int) + r13.1.1))).bind fun r14 => some ((r14.1.1, ()), ((r13.2.1.1, r13.2.1.2.1, ()), ())) := by kernel_rfl
theorem F85_eq (k : Nat) (a0_0 : List Int) (a0_1 : Int) : F85 (k + 2) a0_0 a0_1 =
    (F49 k a0_0 a0_1 (5 : Int)).bind fun r1 => if (r1.1.1 == (0 : Int)) = true then (F76 k r1.2.1.1 r1.2.1.2.1 [(0 : Int), (120000 : Int), (-120000 : Int), (119987 : Int), (-119988 : Int)]).bind fun r2 => (F76 k r2.2.1.1 r2.2.1.2.1 [(0 : Int), (4000000 : Int), (-4000000 : Int)]).bind fun r3 => some (((r2.1.1, r3.1.1, ()), ()), ((r3.2.1.1, r3.2.1.2.1, ()), ())) else if (r1.1.1 == (1 : Int)) = true then (F49 k r1.2.1.1 r1.2.1.2.1 (30 : Int)).bind fun r4 => some ((((IntKind.i64.wrap (r4.1.1 - (15 : Int))), (0 : Int), ()), ()), ((r4.2.1.1, r4.2.1.2.1, ()), ())) else if (r1.1.1 == (2 : Int)) = true then (F49 k r1.2.1.1 r1.2.1.2.1 (80 : Int)).bind fun r5 => some ((((0 : Int), (IntKind.i64.wrap (r5.1.1 - (40 : Int))), ()), ()), ((r5.2.1.1, r5.2.1.2.1, ()), ())) else (F49 k r1.2.1.1 r1.2.1.2.1 (60 : Int)).bind fun r6 => (F49 k r6.2.1.1 r6.2.1.2.1 (60 : Int)).bind fun r7 => some ((((IntKind.i64.wrap (r6.1.1 - (30 : Int))), (IntKind.i64.wrap (r7.1.1 - (30 : Int))), ()), ()), ((r7.2.1.1, r7.2.1.2.1, ()), ())) := by kernel_rfl
theorem F86_eq (k : Nat) (a0_0 : List Int) (a0_1 : Int) : F86 (k + 2) a0_0 a0_1 =
    (F77 k a0_0 a0_1 [(⟨#[]⟩ : ByteArray), (⟨#[97]⟩ : ByteArray), (⟨#[98]⟩ : ByteArray), (⟨#[97, 98]⟩ : ByteArray), (⟨#[105, 116, 39, 115]⟩ : ByteArray), (⟨#[39, 39]⟩ : ByteArray), (⟨#[122, 32, 122]⟩ : ByteArray), (⟨#[116, 114, 117, 101]⟩ : ByteArray), (⟨#[49, 50]⟩ : ByteArray), (⟨#[49, 46, 53, 48]⟩ : ByteArray), (⟨#[50, 48, 50, 52, 45, 48, 50, 45, 50, 57]⟩ : ByteArray), (⟨#[126, 126, 126, 126, 126, 126, 126, 126, 126, 126, 126, 126]⟩ : ByteArray), (⟨#[51, 109, 45, 52, 100]⟩ : ByteArray), (⟨#[65]⟩ : ByteArray)]).bind fun r1 => some ((r1.1.1, ()), ((r1.2.1.1, r1.2.1.2.1, ()), ())) := by kernel_rfl
theorem F87_eq (k : Nat) (a0_0 : Bool) (a0_1 : List Int) : F87 (k + 2) a0_0 a0_1 =
    if (decide ((a0_1.length : Int) ≤ (16 : Int))) = true then if ((a0_1.length : Int) == (0 : Int)) = true then if (!a0_0) = true then (F107043 k a0_1).bind fun r1 => some (((!r1.1.1), ()), (((), (), ()), ())) else if (decide ((a0_1.length : Int) > (0 : Int))) = true then if (decide (0 ≤ (IntKind.i64.wrap ((a0_1.length : Int) - (1 : Int))))) = true then (a0_1[(IntKind.i64.wrap ((a0_1.length : Int) - (1 : Int))).toNat]?).bind fun y2 => if (y2 != (0 : Int)) = true then (F107043 k a0_1).bind fun r3 => some (((!r3.1.1), ()), (((), (), ()), ())) else some ((false, ()), (((), (), ()), ())) else none else some ((false, ()), (((), (), ()), ())) else if (decide ((a0_1.length : Int) > (0 : Int))) = true then if (decide (0 ≤ (IntKind.i64.wrap ((a0_1.length : Int) - (1 : Int))))) = true then (a0_1[(IntKind.i64.wrap ((a0_1.length : Int) - (1 : Int))).toNat]?).bind fun y4 => if (y4 != (0 : Int)) = true then (F107043 k a0_1).bind fun r5 => some (((!r5.1.1), ()), (((), (), ()), ())) else some ((false, ()), (((), (), ()), ())) else none else some ((false, ()), (((), (), ()), ())) else some ((false, ()), (((), (), ()), ())) := by kernel_rfl
theorem F88_eq (k : Nat) (a0 : List Int) : F88 (k + 2) a0 =
    if ((a0.length : Int) == (0 : Int)) = true then some (((0 : Int), ()), ((), ())) else (F107 k a0).bind fun r1 => some (((r1.1.1.size : Int), ()), ((), ())) := by kernel_rfl
theorem F89_eq (k : Nat) (a0 : List Int) (a1 : Int) : F89 (k + 2) a0 a1 =
    if (decide ((IntKind.i64.wrap (a1 - (a0.length : Int))) < (0 : Int))) = true then some (((-1 : Int), ()), ((), (), ())) else some (((IntKind.i64.wrap (a1 - (a0.length : Int))), ()), ((), (), ())) := by kernel_rfl
theorem F90_eq (k : Nat) (a0_0 : Bool) (a0_1 : List Int) (a0_2 : Int) : F90 (k + 2) a0_0 a0_1 a0_2 =
    if (!a0_0) = true then if ((a0_1.length : Int) == (0 : Int)) = true then some (((a0_2 == (0 : Int)), ()), (((), (), (), ()), ())) else some ((false, ()), (((), (), (), ()), ())) else some ((false, ()), (((), (), (), ()), ())) := by kernel_rfl
theorem F91_eq (k : Nat) (a0_0 : Bool) (a0_1 : List Int) : F91 (k + 2) a0_0 a0_1 =
    if (decide ((a0_1.length : Int) > (16 : Int))) = true then some ((false, ()), (((), (), ()), ())) else if a0_0 = true then if ((a0_1.length : Int) == (0 : Int)) = true then some ((false, ()), (((), (), ()), ())) else F91c4 k a0_0 a0_1 (0 : Int) else F91c4 k a0_0 a0_1 (0 : Int) := by kernel_rfl
theorem F91c4_eq (k : Nat) (x1_0 : Bool) (x1_1 : List Int) (x3 : Int) : F91c4 (k + 1) x1_0 x1_1 x3 =
    if (decide (x3 < (x1_1.length : Int))) = true then if (decide (0 ≤ x3)) = true then (x1_1[x3.toNat]?).bind fun y1 => (F56 k y1 (0 : Int) (9999 : Int)).bind fun r2 => if (!r2.1.1) = true then some ((false, ()), (((), (), ()), ())) else F91c4 k x1_0 x1_1 (IntKind.i64.wrap (x3 + (1 : Int))) else none else if ((x1_1.length : Int) == (0 : Int)) = true then some ((true, ()), (((), (), ()), ())) else if (decide (0 ≤ (IntKind.i64.wrap ((x1_1.length : Int) - (1 : Int))))) = true then (x1_1[(IntKind.i64.wrap ((x1_1.length : Int) - (1 : Int))).toNat]?).bind fun y3 => some (((y3 != (0 : Int)), ()), (((), (), ()), ())) else none := by kernel_rfl
theorem F92_eq (k : Nat) (a0 : List Int) : F92 (k + 2) a0 =
    if ((a0.length : Int) == (0 : Int)) = true then some (((0 : Int), ()), ((), ())) else (F108 k a0).bind fun r1 => some (((r1.1.1.size : Int), ()), ((), ())) := by kernel_rfl
theorem F93_eq (k : Nat) (a0 : Int) (a1 : Int) : F93 (k + 2) a0 a1 =
    if (decide (a0 > a1)) = true then some ((a0, ()), ((), (), ())) else some ((a1, ()), ((), (), ())) := by kernel_rfl
theorem F94_eq (k : Nat) (a0_0 : Bool) (a0_1 : List Int) (a0_2 : Int) (a1 : Int) : F94 (k + 2) a0_0 a0_1 a0_2 a1 =
    (F110 k (IntKind.i64.wrap (a1 - a0_2))).bind fun r1 => (F109 k a0_1 r1.1.1).bind fun r2 => some ((r2.1.1, ()), (((), (), (), ()), (), ())) := by kernel_rfl
theorem F95_eq (k : Nat) (a0_0 : Bool) (a0_1 : List Int) (a1_0 : Bool) (a1_1 : List Int) : F95 (k + 2) a0_0 a0_1 a1_0 a1_1 =
    if (!(a0_0 == a1_0)) = true then if a0_0 = true then some (((-1 : Int), ()), (((), (), ()), ((), (), ()), ())) else some (((1 : Int), ()), (((), (), ()), ((), (), ()), ())) else if a0_0 = true then (F111 k a1_1 a0_1).bind fun r1 => some ((r1.1.1, ()), (((), (), ()), ((), (), ()), ())) else (F111 k a0_1 a1_1).bind fun r2 => some ((r2.1.1, ()), (((), (), ()), ((), (), ()), ())) := by kernel_rfl
theorem F96_eq (k : Nat) (a0_0 : Bool) (a0_1 : List Int) (a0_2 : Int) (a1 : Int) : F96 (k + 2) a0_0 a0_1 a0_2 a1 =
    (F112 k a0_0 a0_1).bind fun r1 => (F114 k (IntKind.i64.wrap (a1 - a0_2))).bind fun r2 => (F113 k r1.1.1.2.1 r2.1.1).bind fun r3 => some (((r1.1.1.1, r3.1.1, ()), ()), (((), (), (), ()), (), ())) := by kernel_rfl
theorem F97_eq (k : Nat) (a0_0 : Bool) (a0_1 : List Int) (a1_0 : Bool) (a1_1 : List Int) : F97 (k + 2) a0_0 a0_1 a1_0 a1_1 =
    if (a0_0 == a1_0) = true then (F115 k a0_1 a1_1).bind fun r1 => some (((a0_0, r1.1.1, ()), ()), (((), (), ()), ((), (), ()), ())) else (F116 k a0_1 a1_1).bind fun r2 => if (decide (r2.1.1 ≥ (0 : Int))) = true then (F117 k a0_1 a1_1).bind fun r3 => some (((a0_0, r3.1.1, ()), ()), (((), (), ()), ((), (), ()), ())) else (F117 k a1_1 a0_1).bind fun r4 => some (((a1_0, r4.1.1, ()), ()), (((), (), ()), ((), (), ()), ())) := by kernel_rfl
theorem F98_eq (k : Nat) (a0_0 : Bool) (a0_1 : List Int) : F98 (k + 2) a0_0 a0_1 =
    some ((((!a0_0), a0_1, ()), ()), (((), (), ()), ())) := by kernel_rfl
theorem F99_eq (k : Nat) (a0_0 : Bool) (a0_1 : List Int) : F99 (k + 2) a0_0 a0_1 =
    if ((a0_1.length : Int) == (0 : Int)) = true then some (((0 : Int), ()), (((), (), ()), ())) else if a0_0 = true then some (((-1 : Int), ()), (((), (), ()), ())) else some (((1 : Int), ()), (((), (), ()), ())) := by kernel_rfl
theorem F100_eq (k : Nat) (a0 : Int) : F100 (k + 2) a0 =
    some (((a0 != a0), ()), ((), ())) := by kernel_rfl
theorem F102_eq (k : Nat) (a0_0 : List Int) (a0_1 : Int) (a1 : Int) : F102 (k + 2) a0_0 a0_1 a1 =
    (F49 k a0_0 a0_1 (64 : Int)).bind fun r1 => (F76 k r1.2.1.1 r1.2.1.2.1 [(0 : Int), (1 : Int), (1 : Int), (2 : Int), (3 : Int), (4 : Int), (5 : Int), (8 : Int), (9 : Int), (12 : Int), (17 : Int), (29 : Int), (30 : Int), (31 : Int), (33 : Int), (63 : Int), (64 : Int), (IntKind.i64.wrap ((1 : Int) + r1.1.1))]).bind fun r2 => if (decide (r2.1.1 > a1)) = true then (F49 k r2.2.1.1 r2.2.1.2.1 a1).bind fun r3 => F102c4 k r3.2.1.1 r3.2.1.2.1 false ([] : List Int) (IntKind.i64.wrap ((1 : Int) + r3.1.1)) else F102c4 k r2.2.1.1 r2.2.1.2.1 false ([] : List Int) r2.1.1 := by kernel_rfl
theorem F102c4_eq (k : Nat) (x0_0 : List Int) (x0_1 : Int) (x4_0 : Bool) (x4_1 : List Int) (x5 : Int) : F102c4 (k + 1) x0_0 x0_1 x4_0 x4_1 x5 =
    (F119 k x0_0 x0_1 x5).bind fun r4 => (F49 k r4.2.1.1 r4.2.1.2.1 (6 : Int)).bind fun r5 => if (r5.1.1 == (0 : Int)) = true then (F120 k (⟨#[48]⟩ : ByteArray) (IntKind.i64.wrap (x5 - (1 : Int)))).bind fun r6 => if (Nat.ble ((⟨#[49]⟩ : ByteArray).size + r6.1.1.size) 9223372036854775807) = true then F102c7 k r5.2.1.1 r5.2.1.2.1 x4_0 x4_1 x5 ((⟨#[49]⟩ : ByteArray) ++ r6.1.1) else none else F102c7 k r5.2.1.1 r5.2.1.2.1 x4_0 x4_1 x5 r4.1.1 := by kernel_rfl
theorem F102c7_eq (k : Nat) (x0_0 : List Int) (x0_1 : Int) (x4_0 : Bool) (x4_1 : List Int) (x5 : Int) (x6 : ByteArray) : F102c7 (k + 1) x0_0 x0_1 x4_0 x4_1 x5 x6 =
    (F49 k x0_0 x0_1 (6 : Int)).bind fun r7 => if (r7.1.1 == (0 : Int)) = true then (F120 k (⟨#[57]⟩ : ByteArray) x5).bind fun r8 => F102c9 k r7.2.1.1 r7.2.1.2.1 x4_0 x4_1 r8.1.1 else F102c9 k r7.2.1.1 r7.2.1.2.1 x4_0 x4_1 x6 := by kernel_rfl
theorem F102c9_eq (k : Nat) (x0_0 : List Int) (x0_1 : Int) (x4_0 : Bool) (x4_1 : List Int) (x6 : ByteArray) : F102c9 (k + 1) x0_0 x0_1 x4_0 x4_1 x6 =
    (F49 k x0_0 x0_1 (3 : Int)).bind fun r9 => (F122 k x6).bind fun r10 => (F121 k (r9.1.1 == (0 : Int)) r10.1.1).bind fun r11 => some (((r11.1.1.1, r11.1.1.2.1, ()), ()), ((r9.2.1.1, r9.2.1.2.1, ()), (), ())) := by kernel_rfl
theorem F103_eq (k : Nat) (a0_0 : List Int) (a0_1 : Int) : F103 (k + 2) a0_0 a0_1 =
    (F102 k a0_0 a0_1 (64 : Int)).bind fun r1 => (F49 k r1.2.1.1 r1.2.1.2.1 (30 : Int)).bind fun r2 => if (r2.1.1 == (0 : Int)) = true then if (decide (r1.1.1.2.1.length + [(0 : Int)].length ≤ 17592186044416)) = true then F103c12 k r2.2.1.1 r2.2.1.2.1 false ([] : List Int) r1.1.1.1 (r1.1.1.2.1 ++ [(0 : Int)]) else none else if (r2.1.1 == (1 : Int)) = true then (F76 k r2.2.1.1 r2.2.1.2.1 [(10000 : Int), (-1 : Int)]).bind fun r3 => if (decide (r1.1.1.2.1.length + [r3.1.1].length ≤ 17592186044416)) = true then F103c12 k r3.2.1.1 r3.2.1.2.1 false ([] : List Int) r1.1.1.1 (r1.1.1.2.1 ++ [r3.1.1]) else none else if (r2.1.1 == (2 : Int)) = true then some (((true, ([] : List Int), ()), ()), ((r2.2.1.1, r2.2.1.2.1, ()), ())) else if (r2.1.1 == (3 : Int)) = true then F103c10 k r2.2.1.1 r2.2.1.2.1 false ([] : List Int) r1.1.1.1 r1.1.1.2.1 else F103c12 k r2.2.1.1 r2.2.1.2.1 false ([] : List Int) r1.1.1.1 r1.1.1.2.1 := by kernel_rfl
theorem F103c12_eq (k : Nat) (x0_0 : List Int) (x0_1 : Int) (x2_0 : Bool) (x2_1 : List Int) (x3_0 : Bool) (x3_1 : List Int) : F103c12 (k + 1) x0_0 x0_1 x2_0 x2_1 x3_0 x3_1 =
    some (((x3_0, x3_1, ()), ()), ((x0_0, x0_1, ()), ())) := by kernel_rfl
theorem F103c10_eq (k : Nat) (x0_0 : List Int) (x0_1 : Int) (x2_0 : Bool) (x2_1 : List Int) (x3_0 : Bool) (x3_1 : List Int) : F103c10 (k + 1) x0_0 x0_1 x2_0 x2_1 x3_0 x3_1 =
    if (decide ((x3_1.length : Int) < (17 : Int))) = true then if (decide (x3_1.length + [(1 : Int)].length ≤ 17592186044416)) = true then F103c10 k x0_0 x0_1 x2_0 x2_1 x3_0 (x3_1 ++ [(1 : Int)]) else none else F103c12 k x0_0 x0_1 x2_0 x2_1 x3_0 x3_1 := by kernel_rfl
theorem F104_eq (k : Nat) (a0 : Int) : F104 (k + 2) a0 =
    F104c3 k a0 false ([] : List Int) ([] : List Int) a0 := by kernel_rfl
theorem F104c3_eq (k : Nat) (x0 : Int) (x2_0 : Bool) (x2_1 : List Int) (x3 : List Int) (x4 : Int) : F104c3 (k + 1) x0 x2_0 x2_1 x3 x4 =
    if (x4 != (0 : Int)) = true then if (decide ((x4.tmod (10000 : Int)) < (0 : Int))) = true then F104c7 k x0 x2_0 x2_1 x3 x4 (IntKind.i64.wrap (0 - (x4.tmod (10000 : Int)))) else F104c7 k x0 x2_0 x2_1 x3 x4 (x4.tmod (10000 : Int)) else some (((decide (x0 < (0 : Int)), x3, ()), ()), ((), ())) := by kernel_rfl
theorem F104c7_eq (k : Nat) (x0 : Int) (x2_0 : Bool) (x2_1 : List Int) (x3 : List Int) (x4 : Int) (x5 : Int) : F104c7 (k + 1) x0 x2_0 x2_1 x3 x4 x5 =
    if (decide (x3.length + [x5].length ≤ 17592186044416)) = true then F104c3 k x0 x2_0 x2_1 (x3 ++ [x5]) (IntKind.i64.wrap (x4.tdiv (10000 : Int))) else none := by kernel_rfl
theorem F105_eq (k : Nat) (a0 : Int) (a1 : Int) (a2 : Int) : F105 (k + 2) a0 a1 a2 =
    (F123 k a0).bind fun r1 => F105c3 k a0 a1 (IntKind.i64.wrap (r1.1.1 + a2)) (1 : Int) := by kernel_rfl
theorem F105c3_eq (k : Nat) (x0 : Int) (x1 : Int) (x7 : Int) (x8 : Int) : F105c3 (k + 1) x0 x1 x7 x8 =
    if (decide (x8 < x1)) = true then (F124 k x0 x8).bind fun r2 => F105c3 k x0 x1 (IntKind.i64.wrap (x7 + r2.1.1)) (IntKind.i64.wrap (x8 + (1 : Int))) else some ((x7, ()), ((), (), (), ())) := by kernel_rfl
theorem F106_eq (k : Nat) (a0 : Int) : F106 (k + 2) a0 =
    (F45 k a0 (0 : Int) (9999 : Int)).bind fun r1 => some (((!r1.1.1), ()), ((), ())) := by kernel_rfl
theorem F107_eq (k : Nat) (a0 : List Int) : F107 (k + 1) a0 = textR (a0, ()) := by kernel_rfl
theorem F108_eq (k : Nat) (a0 : List Int) : F108 (k + 2) a0 =
    if ((a0.length : Int) == (0 : Int)) = true then some (((⟨#[48]⟩ : ByteArray), ()), ((), ())) else if (decide (0 ≤ (IntKind.i64.wrap ((a0.length : Int) - (1 : Int))))) = true then (a0[(IntKind.i64.wrap ((a0.length : Int) - (1 : Int))).toNat]?).bind fun y1 => (F130 k y1).bind fun r2 => F108c5 k a0 r2.1.1 (IntKind.i64.wrap ((a0.length : Int) - (2 : Int))) else none := by kernel_rfl
theorem F108c5_eq (k : Nat) (x0 : List Int) (x3 : ByteArray) (x4 : Int) : F108c5 (k + 1) x0 x3 x4 =
    if (decide (x4 ≥ (0 : Int))) = true then if (decide (0 ≤ x4)) = true then (x0[x4.toNat]?).bind fun y3 => (F131 k y3 (4 : Int)).bind fun r4 => if (Nat.ble (x3.size + r4.1.1.size) 9223372036854775807) = true then F108c5 k x0 (x3 ++ r4.1.1) (IntKind.i64.wrap (x4 - (1 : Int))) else none else none else some ((x3, ()), ((), ())) := by kernel_rfl
theorem F109_eq (k : Nat) (a0 : List Int) (a1 : List Int) : F109 (k + 2) a0 a1 =
    if (decide (0 ≤ (IntKind.i64.wrap ((a0.length : Int) + (a1.length : Int)))) && decide ((IntKind.i64.wrap ((a0.length : Int) + (a1.length : Int))) ≤ (IntKind.i64.wrap ((a0.length : Int) + (a1.length : Int)))) && decide ((IntKind.i64.wrap ((a0.length : Int) + (a1.length : Int))) ≤ (17592186044416 : Int))) = true then F109c3 k a0 a1 (List.replicate (IntKind.i64.wrap ((a0.length : Int) + (a1.length : Int))).toNat (0 : Int)) (0 : Int) else none := by kernel_rfl
theorem F109c3_eq (k : Nat) (x0 : List Int) (x1 : List Int) (x5 : List Int) (x6 : Int) : F109c3 (k + 1) x0 x1 x5 x6 =
    if (decide (x6 < (x0.length : Int))) = true then F109c7 k x0 x1 x5 x6 (0 : Int) (0 : Int) else (F133 k x5).bind fun r1 => some ((r1.1.1, ()), ((), (), ())) := by kernel_rfl
theorem F109c7_eq (k : Nat) (x0 : List Int) (x1 : List Int) (x5 : List Int) (x6 : Int) (x7 : Int) (x8 : Int) : F109c7 (k + 1) x0 x1 x5 x6 x7 x8 =
    if (decide (x8 < (x1.length : Int))) = true then if (decide (0 ≤ (IntKind.i64.wrap (x6 + x8))) && decide ((IntKind.i64.wrap (x6 + x8)) < (x5.length : Int))) = true then (x5[(IntKind.i64.wrap (x6 + x8)).toNat]?).bind fun y2 => if (decide (0 ≤ x6)) = true then (x0[x6.toNat]?).bind fun y3 => (F132 k x1 x8).bind fun r4 => if (decide (0 ≤ (IntKind.i64.wrap (x6 + x8))) && decide ((IntKind.i64.wrap (x6 + x8)) < (x5.length : Int))) = true then (x5[(IntKind.i64.wrap (x6 + x8)).toNat]?).bind fun y5 => F109c7 k x0 x1 (x5.set ((IntKind.i64.wrap (x6 + x8)).toNat) ((IntKind.i64.wrap ((IntKind.i64.wrap (y2 + (IntKind.i64.wrap (y3 * r4.1.1)))) + x7)).tmod (10000 : Int))) x6 (IntKind.i64.wrap ((IntKind.i64.wrap ((IntKind.i64.wrap (y2 + (IntKind.i64.wrap (y3 * r4.1.1)))) + x7)).tdiv (10000 : Int))) (IntKind.i64.wrap (x8 + (1 : Int))) else none else none else none else if (decide (x7 > (0 : Int))) = true then if (decide (0 ≤ (IntKind.i64.wrap (x6 + x8))) && decide ((IntKind.i64.wrap (x6 + x8)) < (x5.length : Int))) = true then (x5[(IntKind.i64.wrap (x6 + x8)).toNat]?).bind fun y6 => if (decide (0 ≤ x6)) = true then (x0[x6.toNat]?).bind fun y7 => (F132 k x1 x8).bind fun r8 => if (decide (0 ≤ (IntKind.i64.wrap (x6 + x8))) && decide ((IntKind.i64.wrap (x6 + x8)) < (x5.length : Int))) = true then (x5[(IntKind.i64.wrap (x6 + x8)).toNat]?).bind fun y9 => F109c7 k x0 x1 (x5.set ((IntKind.i64.wrap (x6 + x8)).toNat) ((IntKind.i64.wrap ((IntKind.i64.wrap (y6 + (IntKind.i64.wrap (y7 * r8.1.1)))) + x7)).tmod (10000 : Int))) x6 (IntKind.i64.wrap ((IntKind.i64.wrap ((IntKind.i64.wrap (y6 + (IntKind.i64.wrap (y7 * r8.1.1)))) + x7)).tdiv (10000 : Int))) (IntKind.i64.wrap (x8 + (1 : Int))) else none else none else none else F109c3 k x0 x1 x5 (IntKind.i64.wrap (x6 + (1 : Int))) := by kernel_rfl
theorem F110_eq (k : Nat) (a0 : Int) : F110 (k + 2) a0 =
    F110c2 k a0 ([] : List Int) := by kernel_rfl
theorem F110c2_eq (k : Nat) (x0 : Int) (x3 : List Int) : F110c2 (k + 1) x0 x3 =
    if (decide (x0 ≥ (4 : Int))) = true then if (decide (x3.length + [(0 : Int)].length ≤ 17592186044416)) = true then F110c2 k (IntKind.i64.wrap (x0 - (4 : Int))) (x3 ++ [(0 : Int)]) else none else F110c6 k x0 x3 (1 : Int) := by kernel_rfl
theorem F110c6_eq (k : Nat) (x0 : Int) (x3 : List Int) (x4 : Int) : F110c6 (k + 1) x0 x3 x4 =
    if (decide (x0 > (0 : Int))) = true then F110c6 k (IntKind.i64.wrap (x0 - (1 : Int))) x3 (IntKind.i64.wrap (x4 * (10 : Int))) else if (decide (x3.length + [x4].length ≤ 17592186044416)) = true then some (((x3 ++ [x4]), ()), ((), ())) else none := by kernel_rfl
theorem F111_eq (k : Nat) (a0 : List Int) (a1 : List Int) : F111 (k + 2) a0 a1 =
    if ((a0.length : Int) != (a1.length : Int)) = true then if (decide ((a0.length : Int) < (a1.length : Int))) = true then some (((-1 : Int), ()), ((), (), ())) else some (((1 : Int), ()), ((), (), ())) else F111c6 k a0 a1 (IntKind.i64.wrap ((a0.length : Int) - (1 : Int))) := by kernel_rfl
theorem F111c6_eq (k : Nat) (x0 : List Int) (x1 : List Int) (x5 : Int) : F111c6 (k + 1) x0 x1 x5 =
    if (decide (x5 ≥ (0 : Int))) = true then if (decide (0 ≤ x5)) = true then (x0[x5.toNat]?).bind fun y1 => if (decide (0 ≤ x5)) = true then (x1[x5.toNat]?).bind fun y2 => if (decide (y1 < y2)) = true then some (((-1 : Int), ()), ((), (), ())) else if (decide (0 ≤ x5)) = true then (x0[x5.toNat]?).bind fun y3 => if (decide (0 ≤ x5)) = true then (x1[x5.toNat]?).bind fun y4 => if (decide (y3 > y4)) = true then some (((1 : Int), ()), ((), (), ())) else F111c6 k x0 x1 (IntKind.i64.wrap (x5 - (1 : Int))) else none else none else none else none else some (((0 : Int), ()), ((), (), ())) := by kernel_rfl
theorem F112_eq (k : Nat) (a0_0 : Bool) (a0_1 : List Int) : F112 (k + 2) a0_0 a0_1 =
    some (((a0_0, a0_1, ()), ()), (((), (), ()), ())) := by kernel_rfl
theorem F113_eq (k : Nat) (a0 : List Int) (a1 : List Int) : F113 (k + 2) a0 a1 =
    if (decide (0 ≤ (IntKind.i64.wrap ((IntKind.i64.wrap ((a0.length : Int) + (a1.length : Int))) + (1 : Int)))) && decide ((IntKind.i64.wrap ((IntKind.i64.wrap ((a0.length : Int) + (a1.length : Int))) + (1 : Int))) ≤ (IntKind.i64.wrap ((IntKind.i64.wrap ((a0.length : Int) + (a1.length : Int))) + (1 : Int)))) && decide ((IntKind.i64.wrap ((IntKind.i64.wrap ((a0.length : Int) + (a1.length : Int))) + (1 : Int))) ≤ (17592186044416 : Int))) = true then F113c3 k a1 (List.replicate (IntKind.i64.wrap ((IntKind.i64.wrap ((a0.length : Int) + (a1.length : Int))) + (1 : Int))).toNat (0 : Int)) a0 (a0.length : Int) (0 : Int) else none := by kernel_rfl
theorem F113c3_eq (k : Nat) (x1 : List Int) (x5 : List Int) (x19 : List Int) (x20 : Int) (x21 : Int) : F113c3 (k + 1) x1 x5 x19 x20 x21 =
    if (decide (x21 < x20)) = true then if (decide (0 ≤ x21)) = true then (x19[x21.toNat]?).bind fun y1 => F113c7 k x1 x5 x21 y1 (0 : Int) x19 x20 x21 x1 (x1.length : Int) (0 : Int) else none else (F134 k x5).bind fun r2 => some ((r2.1.1, ()), ((), (), ())) := by kernel_rfl
theorem F113c7_eq (k : Nat) (x1 : List Int) (x5 : List Int) (x6 : Int) (x7 : Int) (x8 : Int) (x19 : List Int) (x20 : Int) (x21 : Int) (x26 : List Int) (x27 : Int) (x28 : Int) : F113c7 (k + 1) x1 x5 x6 x7 x8 x19 x20 x21 x26 x27 x28 =
    if (decide (x28 < x27)) = true then if (decide (0 ≤ x28)) = true then (x26[x28.toNat]?).bind fun y3 => if (decide (0 ≤ (IntKind.i64.wrap (x6 + x28))) && decide ((IntKind.i64.wrap (x6 + x28)) < (x5.length : Int))) = true then (x5[(IntKind.i64.wrap (x6 + x28)).toNat]?).bind fun y4 => if (decide (0 ≤ (IntKind.i64.wrap (x6 + x28))) && decide ((IntKind.i64.wrap (x6 + x28)) < (x5.length : Int))) = true then (x5[(IntKind.i64.wrap (x6 + x28)).toNat]?).bind fun y5 => F113c7 k x1 (x5.set ((IntKind.i64.wrap (x6 + x28)).toNat) ((IntKind.i64.wrap ((IntKind.i64.wrap (y4 + (IntKind.i64.wrap (x7 * y3)))) + x8)).tmod (10000 : Int))) x6 x7 (IntKind.i64.wrap ((IntKind.i64.wrap ((IntKind.i64.wrap (y4 + (IntKind.i64.wrap (x7 * y3)))) + x8)).tdiv (10000 : Int))) x19 x20 x21 x26 x27 (IntKind.i64.wrap (x28 + (1 : Int))) else none else none else none else if (decide (0 ≤ (IntKind.i64.wrap (x6 + (x1.length : Int)))) && decide ((IntKind.i64.wrap (x6 + (x1.length : Int))) < (x5.length : Int))) = true then (x5[(IntKind.i64.wrap (x6 + (x1.length : Int))).toNat]?).bind fun y6 => if (decide (0 ≤ (IntKind.i64.wrap (x6 + (x1.length : Int)))) && decide ((IntKind.i64.wrap (x6 + (x1.length : Int))) < (x5.length : Int))) = true then (x5[(IntKind.i64.wrap (x6 + (x1.length : Int))).toNat]?).bind fun y7 => F113c3 k x1 (x5.set ((IntKind.i64.wrap (x6 + (x1.length : Int))).toNat) (IntKind.i64.wrap (y6 + x8))) x19 x20 (IntKind.i64.wrap (x21 + (1 : Int))) else none else none := by kernel_rfl
theorem F114_eq (k : Nat) (a0 : Int) : F114 (k + 2) a0 =
    F114c3 k [(1 : Int)] a0 (0 : Int) := by kernel_rfl
theorem F114c3_eq (k : Nat) (x3 : List Int) (x5 : Int) (x6 : Int) : F114c3 (k + 1) x3 x5 x6 =
    if (decide (x6 < x5)) = true then (F113 k x3 [(10 : Int)]).bind fun r1 => F114c3 k r1.1.1 x5 (IntKind.i64.wrap (x6 + (1 : Int))) else some ((x3, ()), ((), ())) := by kernel_rfl
theorem F115_eq (k : Nat) (a0 : List Int) (a1 : List Int) : F115 (k + 2) a0 a1 =
    if (decide (0 ≤ (IntKind.i64.wrap ((if (a1.length : Int) > (a0.length : Int) then (a1.length : Int) else (a0.length : Int)) + (1 : Int)))) && decide ((IntKind.i64.wrap ((if (a1.length : Int) > (a0.length : Int) then (a1.length : Int) else (a0.length : Int)) + (1 : Int))) ≤ (IntKind.i64.wrap ((if (a1.length : Int) > (a0.length : Int) then (a1.length : Int) else (a0.length : Int)) + (1 : Int)))) && decide ((IntKind.i64.wrap ((if (a1.length : Int) > (a0.length : Int) then (a1.length : Int) else (a0.length : Int)) + (1 : Int))) ≤ (17592186044416 : Int))) = true then F115c4 k (a0.take (List.replicate (IntKind.i64.wrap ((if (a1.length : Int) > (a0.length : Int) then (a1.length : Int) else (a0.length : Int)) + (1 : Int))).toNat (0 : Int)).length ++ (List.replicate (IntKind.i64.wrap ((if (a1.length : Int) > (a0.length : Int) then (a1.length : Int) else (a0.length : Int)) + (1 : Int))).toNat (0 : Int)).drop a0.length) a1 (a1.length : Int) (0 : Int) else none := by kernel_rfl
theorem F115c4_eq (k : Nat) (x5 : List Int) (x19 : List Int) (x20 : Int) (x21 : Int) : F115c4 (k + 1) x5 x19 x20 x21 =
    if (decide (x21 < x20)) = true then if (decide (0 ≤ x21)) = true then (x19[x21.toNat]?).bind fun y1 => if (decide (0 ≤ x21) && decide (x21 < (x5.length : Int))) = true then (x5[x21.toNat]?).bind fun y2 => if (decide (0 ≤ x21) && decide (x21 < (x5.length : Int))) = true then (x5[x21.toNat]?).bind fun y3 => F115c4 k (x5.set x21.toNat (IntKind.i64.wrap (y2 + y1))) x19 x20 (IntKind.i64.wrap (x21 + (1 : Int))) else none else none else none else F115c9 k x5 (IntKind.i64.wrap ((x5.length : Int) - (1 : Int))) (0 : Int) := by kernel_rfl
theorem F115c9_eq (k : Nat) (x5 : List Int) (x36 : Int) (x37 : Int) : F115c9 (k + 1) x5 x36 x37 =
    if (decide (x37 < x36)) = true then if (decide (0 ≤ (IntKind.i64.wrap (x37 + (1 : Int)))) && decide ((IntKind.i64.wrap (x37 + (1 : Int))) < (x5.length : Int))) = true then (x5[(IntKind.i64.wrap (x37 + (1 : Int))).toNat]?).bind fun y4 => if (decide (0 ≤ x37) && decide (x37 < (x5.length : Int))) = true then (x5[x37.toNat]?).bind fun y5 => if (decide (0 ≤ (IntKind.i64.wrap (x37 + (1 : Int)))) && decide ((IntKind.i64.wrap (x37 + (1 : Int))) < (x5.length : Int))) = true then (x5[(IntKind.i64.wrap (x37 + (1 : Int))).toNat]?).bind fun y6 => if (decide (0 ≤ x37) && decide (x37 < ((x5.set ((IntKind.i64.wrap (x37 + (1 : Int))).toNat) (IntKind.i64.wrap (y4 + (IntKind.i64.wrap (y5.tdiv (10000 : Int)))))).length : Int))) = true then ((x5.set ((IntKind.i64.wrap (x37 + (1 : Int))).toNat) (IntKind.i64.wrap (y4 + (IntKind.i64.wrap (y5.tdiv (10000 : Int))))))[x37.toNat]?).bind fun y7 => if (decide (0 ≤ x37) && decide (x37 < ((x5.set ((IntKind.i64.wrap (x37 + (1 : Int))).toNat) (IntKind.i64.wrap (y4 + (IntKind.i64.wrap (y5.tdiv (10000 : Int)))))).length : Int))) = true then ((x5.set ((IntKind.i64.wrap (x37 + (1 : Int))).toNat) (IntKind.i64.wrap (y4 + (IntKind.i64.wrap (y5.tdiv (10000 : Int))))))[x37.toNat]?).bind fun y8 => F115c9 k ((x5.set ((IntKind.i64.wrap (x37 + (1 : Int))).toNat) (IntKind.i64.wrap (y4 + (IntKind.i64.wrap (y5.tdiv (10000 : Int)))))).set x37.toNat (y7.tmod (10000 : Int))) x36 (IntKind.i64.wrap (x37 + (1 : Int))) else none else none else none else none else none else (F134 k x5).bind fun r9 => some ((r9.1.1, ()), ((), (), ())) := by kernel_rfl
theorem F116_eq (k : Nat) (a0 : List Int) (a1 : List Int) : F116 (k + 2) a0 a1 =
    if ((a0.length : Int) != (a1.length : Int)) = true then some (((if (if (IntKind.i64.wrap ((a0.length : Int) - (a1.length : Int))) < (1 : Int) then (IntKind.i64.wrap ((a0.length : Int) - (a1.length : Int))) else (1 : Int)) > (-1 : Int) then (if (IntKind.i64.wrap ((a0.length : Int) - (a1.length : Int))) < (1 : Int) then (IntKind.i64.wrap ((a0.length : Int) - (a1.length : Int))) else (1 : Int)) else (-1 : Int)), ()), ((), (), ())) else F116c4 k a0 a1 (IntKind.i64.wrap ((a0.length : Int) - (1 : Int))) := by kernel_rfl
theorem F116c4_eq (k : Nat) (x0 : List Int) (x1 : List Int) (x5 : Int) : F116c4 (k + 1) x0 x1 x5 =
    if (decide (x5 ≥ (0 : Int))) = true then if (decide (0 ≤ x5)) = true then (x0[x5.toNat]?).bind fun y1 => if (decide (0 ≤ x5)) = true then (x1[x5.toNat]?).bind fun y2 => if (y1 != y2) = true then if (decide (0 ≤ x5)) = true then (x0[x5.toNat]?).bind fun y3 => if (decide (0 ≤ x5)) = true then (x1[x5.toNat]?).bind fun y4 => some (((if (if (IntKind.i64.wrap (y3 - y4)) < (1 : Int) then (IntKind.i64.wrap (y3 - y4)) else (1 : Int)) > (-1 : Int) then (if (IntKind.i64.wrap (y3 - y4)) < (1 : Int) then (IntKind.i64.wrap (y3 - y4)) else (1 : Int)) else (-1 : Int)), ()), ((), (), ())) else none else none else F116c4 k x0 x1 (IntKind.i64.wrap (x5 - (1 : Int))) else none else none else some (((0 : Int), ()), ((), (), ())) := by kernel_rfl
theorem F117_eq (k : Nat) (a0 : List Int) (a1 : List Int) : F117 (k + 2) a0 a1 =
    (F135 k a0).bind fun r1 => F117c3 k r1.1.1 a1 (a1.length : Int) (0 : Int) := by kernel_rfl
theorem F117c3_eq (k : Nat) (x5 : List Int) (x11 : List Int) (x12 : Int) (x13 : Int) : F117c3 (k + 1) x5 x11 x12 x13 =
    if (decide (x13 < x12)) = true then if (decide (0 ≤ x13)) = true then (x11[x13.toNat]?).bind fun y2 => if (decide (0 ≤ x13) && decide (x13 < (x5.length : Int))) = true then (x5[x13.toNat]?).bind fun y3 => if (decide (0 ≤ x13) && decide (x13 < (x5.length : Int))) = true then (x5[x13.toNat]?).bind fun y4 => F117c3 k (x5.set x13.toNat (IntKind.i64.wrap (y3 - y2))) x11 x12 (IntKind.i64.wrap (x13 + (1 : Int))) else none else none else none else F117c8 k x5 (x5.length : Int) (0 : Int) := by kernel_rfl
theorem F117c8_eq (k : Nat) (x5 : List Int) (x27 : Int) (x28 : Int) : F117c8 (k + 1) x5 x27 x28 =
    if (decide (x28 < x27)) = true then if (decide (0 ≤ x28) && decide (x28 < (x5.length : Int))) = true then (x5[x28.toNat]?).bind fun y5 => if (decide (y5 < (0 : Int))) = true then if (decide (0 ≤ x28) && decide (x28 < (x5.length : Int))) = true then (x5[x28.toNat]?).bind fun y6 => if (decide (0 ≤ x28) && decide (x28 < (x5.length : Int))) = true then (x5[x28.toNat]?).bind fun y7 => if (decide (0 ≤ (IntKind.i64.wrap (x28 + (1 : Int)))) && decide ((IntKind.i64.wrap (x28 + (1 : Int))) < ((x5.set x28.toNat (IntKind.i64.wrap (y6 + (10000 : Int)))).length : Int))) = true then ((x5.set x28.toNat (IntKind.i64.wrap (y6 + (10000 : Int))))[(IntKind.i64.wrap (x28 + (1 : Int))).toNat]?).bind fun y8 => if (decide (0 ≤ (IntKind.i64.wrap (x28 + (1 : Int)))) && decide ((IntKind.i64.wrap (x28 + (1 : Int))) < ((x5.set x28.toNat (IntKind.i64.wrap (y6 + (10000 : Int)))).length : Int))) = true then ((x5.set x28.toNat (IntKind.i64.wrap (y6 + (10000 : Int))))[(IntKind.i64.wrap (x28 + (1 : Int))).toNat]?).bind fun y9 => F117c13 k ((x5.set x28.toNat (IntKind.i64.wrap (y6 + (10000 : Int)))).set ((IntKind.i64.wrap (x28 + (1 : Int))).toNat) (IntKind.i64.wrap (y8 - (1 : Int)))) x27 x28 else none else none else none else none else F117c13 k x5 x27 x28 else none else (F134 k x5).bind fun r10 => some ((r10.1.1, ()), ((), (), ())) := by kernel_rfl
theorem F117c13_eq (k : Nat) (x5 : List Int) (x27 : Int) (x28 : Int) : F117c13 (k + 1) x5 x27 x28 =
    F117c8 k x5 x27 (IntKind.i64.wrap (x28 + (1 : Int))) := by kernel_rfl
theorem F119_eq (k : Nat) (a0_0 : List Int) (a0_1 : Int) (a1 : Int) : F119 (k + 2) a0_0 a0_1 a1 =
    if (decide (a1 < (1 : Int))) = true then some (((⟨#[48]⟩ : ByteArray), ()), ((a0_0, a0_1, ()), (), ())) else (F49 k a0_0 a0_1 (9 : Int)).bind fun r1 => F119c4 k r1.2.1.1 r1.2.1.2.1 a1 (bytesOf [(IntKind.u8.wrap (IntKind.i64.wrap ((49 : Int) + r1.1.1)))]) := by kernel_rfl
theorem F119c4_eq (k : Nat) (x0_0 : List Int) (x0_1 : Int) (x1 : Int) (x5 : ByteArray) : F119c4 (k + 1) x0_0 x0_1 x1 x5 =
    if (decide ((x5.size : Int) < x1)) = true then (F49 k x0_0 x0_1 (10 : Int)).bind fun r2 => (F76 k r2.2.1.1 r2.2.1.2.1 [(0 : Int), (0 : Int), (9 : Int), (9 : Int), (5 : Int), (1 : Int), r2.1.1]).bind fun r3 => if (Nat.ble (x5.size + (bytesOf [(IntKind.u8.wrap (IntKind.i64.wrap ((48 : Int) + r3.1.1)))]).size) 9223372036854775807) = true then F119c4 k r3.2.1.1 r3.2.1.2.1 x1 (x5 ++ (bytesOf [(IntKind.u8.wrap (IntKind.i64.wrap ((48 : Int) + r3.1.1)))])) else none else some ((x5, ()), ((x0_0, x0_1, ()), (), ())) := by kernel_rfl
theorem F120_eq (k : Nat) (a0 : ByteArray) (a1 : Int) : F120 (k + 2) a0 a1 =
    F120c2 k a0 a1 (⟨#[]⟩ : ByteArray) := by kernel_rfl
theorem F120c2_eq (k : Nat) (x0 : ByteArray) (x1 : Int) (x5 : ByteArray) : F120c2 (k + 1) x0 x1 x5 =
    if (decide (x1 > (0 : Int))) = true then if (Nat.ble (x5.size + x0.size) 9223372036854775807) = true then F120c2 k x0 (IntKind.i64.wrap (x1 - (1 : Int))) (x5 ++ x0) else none else some ((x5, ()), ((), (), ())) := by kernel_rfl
theorem F121_eq (k : Nat) (a0 : Bool) (a1 : List Int) : F121 (k + 2) a0 a1 =
    (F133 k a1).bind fun r1 => if (decide ((r1.1.1.length : Int) > (16 : Int))) = true then some (((false, ([] : List Int), ()), false, ()), ((), (), ())) else if a0 = true then some (((decide ((r1.1.1.length : Int) > (0 : Int)), r1.1.1, ()), true, ()), ((), (), ())) else some (((false, r1.1.1, ()), true, ()), ((), (), ())) := by kernel_rfl
theorem F122_eq (k : Nat) (a0 : ByteArray) : F122 (k + 2) a0 =
    F122c2 k a0 ([] : List Int) := by kernel_rfl
theorem F122c2_eq (k : Nat) (x0 : ByteArray) (x3 : List Int) : F122c2 (k + 1) x0 x3 =
    if (decide ((x0.size : Int) > (0 : Int))) = true then if (decide ((IntKind.i64.wrap ((x0.size : Int) - (4 : Int))) < (0 : Int))) = true then F122c6 k x0 x3 (0 : Int) else F122c6 k x0 x3 (IntKind.i64.wrap ((x0.size : Int) - (4 : Int))) else (F133 k x3).bind fun r1 => some ((r1.1.1, ()), ((), ())) := by kernel_rfl
theorem F122c6_eq (k : Nat) (x0 : ByteArray) (x3 : List Int) (x4 : Int) : F122c6 (k + 1) x0 x3 x4 =
    F122c8 k x0 x3 x4 (0 : Int) x4 := by kernel_rfl
theorem F122c8_eq (k : Nat) (x0 : ByteArray) (x3 : List Int) (x4 : Int) (x5 : Int) (x6 : Int) : F122c8 (k + 1) x0 x3 x4 x5 x6 =
    if (decide (x6 < (x0.size : Int))) = true then if (decide (0 ≤ x6)) = true then (x0[x6.toNat]?).bind fun u2 => F122c8 k x0 x3 x4 (IntKind.i64.wrap ((IntKind.i64.wrap (x5 * (10 : Int))) + (IntKind.i64.wrap (IntKind.u8.wrap ((u2.toNat : Int) - (48 : Int)))))) (IntKind.i64.wrap (x6 + (1 : Int))) else none else if (decide (x3.length + [x5].length ≤ 17592186044416)) = true then if (decide (0 ≤ x4) && decide (x4 ≤ (x0.size : Int))) = true then F122c2 k (x0.extract 0 x4.toNat) (x3 ++ [x5]) else none else none := by kernel_rfl
theorem F123_eq (k : Nat) (a0 : Int) : F123 (k + 2) a0 =
    some (((IntKind.i64.wrap ((IntKind.i64.wrap ((IntKind.i64.wrap ((IntKind.i64.wrap ((365 : Int) * (IntKind.i64.wrap (a0 - (1 : Int))))) + (IntKind.i64.wrap ((IntKind.i64.wrap (a0 - (1 : Int))).tdiv (4 : Int))))) - (IntKind.i64.wrap ((IntKind.i64.wrap (a0 - (1 : Int))).tdiv (100 : Int))))) + (IntKind.i64.wrap ((IntKind.i64.wrap (a0 - (1 : Int))).tdiv (400 : Int))))), ()), ((), ())) := by kernel_rfl
theorem F124_eq (k : Nat) (a0 : Int) (a1 : Int) : F124 (k + 2) a0 a1 =
    if (a1 == (2 : Int)) = true then (F136 k a0).bind fun r1 => if r1.1.1 = true then some (((29 : Int), ()), ((), (), ())) else some (((28 : Int), ()), ((), (), ())) else if (a1 == (4 : Int)) = true then if (a1 == (4 : Int)) = true then some (((30 : Int), ()), ((), (), ())) else F124c11 k else if (a1 == (6 : Int)) = true then if (a1 == (6 : Int)) = true then some (((30 : Int), ()), ((), (), ())) else F124c11 k else if (a1 == (9 : Int)) = true then if (a1 == (9 : Int)) = true then some (((30 : Int), ()), ((), (), ())) else F124c11 k else if (a1 == (11 : Int)) = true then some (((30 : Int), ()), ((), (), ())) else F124c11 k := by kernel_rfl
theorem F124c11_eq (k : Nat) : F124c11 (k + 1) =
    some (((31 : Int), ()), ((), (), ())) := by kernel_rfl
theorem F130_eq (k : Nat) (a0 : Int) : F130 (k + 2) a0 =
    if (decide (a0 < (-9223372036854775807 : Int))) = true then some (((⟨#[45, 57, 50, 50, 51, 51, 55, 50, 48, 51, 54, 56, 53, 52, 55, 55, 53, 56, 48, 56]⟩ : ByteArray), ()), ((), ())) else if (decide (a0 < (0 : Int))) = true then (F130 k (IntKind.i64.wrap (0 - a0))).bind fun r1 => if (Nat.ble ((⟨#[45]⟩ : ByteArray).size + r1.1.1.size) 9223372036854775807) = true then some ((((⟨#[45]⟩ : ByteArray) ++ r1.1.1), ()), ((), ())) else none else if (decide (a0 < (10 : Int))) = true then some (((bytesOf [(IntKind.u8.wrap (IntKind.i64.wrap ((48 : Int) + a0)))]), ()), ((), ())) else (F130 k (IntKind.i64.wrap (a0.tdiv (10 : Int)))).bind fun r2 => if (Nat.ble (r2.1.1.size + (bytesOf [(IntKind.u8.wrap (IntKind.i64.wrap ((48 : Int) + (a0.tmod (10 : Int)))))]).size) 9223372036854775807) = true then some (((r2.1.1 ++ (bytesOf [(IntKind.u8.wrap (IntKind.i64.wrap ((48 : Int) + (a0.tmod (10 : Int)))))])), ()), ((), ())) else none := by kernel_rfl
theorem F131_eq (k : Nat) (a0 : Int) (a1 : Int) : F131 (k + 2) a0 a1 =
    (F130 k a0).bind fun r1 => F131c2 k a1 r1.1.1 := by kernel_rfl
theorem F131c2_eq (k : Nat) (x1 : Int) (x5 : ByteArray) : F131c2 (k + 1) x1 x5 =
    if (decide ((x5.size : Int) < x1)) = true then if (Nat.ble ((⟨#[48]⟩ : ByteArray).size + x5.size) 9223372036854775807) = true then F131c2 k x1 ((⟨#[48]⟩ : ByteArray) ++ x5) else none else some ((x5, ()), ((), (), ())) := by kernel_rfl
theorem F132_eq (k : Nat) (a0 : List Int) (a1 : Int) : F132 (k + 2) a0 a1 =
    if (decide (a1 < (a0.length : Int))) = true then if (decide (0 ≤ a1)) = true then (a0[a1.toNat]?).bind fun y1 => some ((y1, ()), ((), (), ())) else none else some (((0 : Int), ()), ((), (), ())) := by kernel_rfl
theorem F133_eq (k : Nat) (a0 : List Int) : F133 (k + 2) a0 =
    F133c2 k a0 (a0.length : Int) := by kernel_rfl
theorem F133c2_eq (k : Nat) (x0 : List Int) (x3 : Int) : F133c2 (k + 1) x0 x3 =
    if (decide (x3 > (0 : Int))) = true then if (decide (0 ≤ (IntKind.i64.wrap (x3 - (1 : Int))))) = true then (x0[(IntKind.i64.wrap (x3 - (1 : Int))).toNat]?).bind fun y1 => if (y1 == (0 : Int)) = true then F133c2 k x0 (IntKind.i64.wrap (x3 - (1 : Int))) else if (decide (0 ≤ x3) && decide (x3 ≤ (x0.length : Int))) = true then if (decide (([] : List Int).length + (slices x0 0 x3.toNat).length ≤ 17592186044416)) = true then some (((([] : List Int) ++ (slices x0 0 x3.toNat)), ()), ((), ())) else none else none else none else if (decide (0 ≤ x3) && decide (x3 ≤ (x0.length : Int))) = true then if (decide (([] : List Int).length + (slices x0 0 x3.toNat).length ≤ 17592186044416)) = true then some (((([] : List Int) ++ (slices x0 0 x3.toNat)), ()), ((), ())) else none else none := by kernel_rfl
theorem F134_eq (k : Nat) (a0 : List Int) : F134 (k + 2) a0 =
    F134c1 k a0 := by kernel_rfl
theorem F134c1_eq (k : Nat) (x0 : List Int) : F134c1 (k + 1) x0 =
    if (decide ((x0.length : Int) > (0 : Int))) = true then if (decide (0 ≤ (IntKind.i64.wrap ((x0.length : Int) - (1 : Int))))) = true then (x0[(IntKind.i64.wrap ((x0.length : Int) - (1 : Int))).toNat]?).bind fun y1 => if (y1 == (0 : Int)) = true then if (decide (0 ≤ (IntKind.i64.wrap ((x0.length : Int) - (1 : Int)))) && decide ((IntKind.i64.wrap ((x0.length : Int) - (1 : Int))) ≤ (x0.length : Int))) = true then F134c1 k (slices x0 0 ((IntKind.i64.wrap ((x0.length : Int) - (1 : Int))).toNat)) else none else some ((x0, ()), ((), ())) else none else some ((x0, ()), ((), ())) := by kernel_rfl
theorem F135_eq (k : Nat) (a0 : List Int) : F135 (k + 2) a0 =
    bothK (emptyL a0) (some ((([] : List Int), ()), ((), ()))) (if (decide (([] : List Int).length + a0.length ≤ 17592186044416)) = true then some (((([] : List Int) ++ a0), ()), ((), ())) else none) := by kernel_rfl
theorem F136_eq (k : Nat) (a0 : Int) : F136 (k + 2) a0 =
    if ((a0.tmod (4 : Int)) == (0 : Int)) = true then if ((a0.tmod (100 : Int)) != (0 : Int)) = true then some ((true, ()), ((), ())) else some ((((a0.tmod (400 : Int)) == (0 : Int)), ()), ((), ())) else some ((((a0.tmod (400 : Int)) == (0 : Int)), ()), ((), ())) := by kernel_rfl
theorem F107043_eq (k : Nat) (a0 : List Int) : F107043 (k + 2) a0 =
    (F107074 k a0).bind fun r1 => some ((decide (r1.1.1 ≥ (0 : Int)), ()), ((), (), ())) := by kernel_rfl
theorem F107074_eq (k : Nat) (a0 : List Int) : F107074 (k + 2) a0 =
    F107074c2 k a0 (a0.length : Int) (0 : Int) := by kernel_rfl
theorem F107074c2_eq (k : Nat) (x0 : List Int) (x7 : Int) (x8 : Int) : F107074c2 (k + 1) x0 x7 x8 =
    if (decide (x8 < x7)) = true then if (decide (0 ≤ x8)) = true then (x0[x8.toNat]?).bind fun y1 => (F106 k y1).bind fun r2 => if r2.1.1 = true then some ((x8, ()), ((), (), ())) else F107074c2 k x0 x7 (IntKind.i64.wrap (x8 + (1 : Int))) else none else some (((-1 : Int), ()), ((), (), ())) := by kernel_rfl
end Go.Proofs.YthpgglegdhjihaaGreatDoor.R
end

section
/-! Rf: what is to be shown of a law, with no machine in sight. -/
set_option autoImplicit false
namespace Go.Proofs.YthpgglegdhjihaaGreatDoor.R
open Go.Rf
def PureFnValueCmp : Prop := ∀ (a0 : List Int), wfT (.sl (.int .u8)) a0 → ∃ k p, F6 k a0 = some ((true, ()), p)
end Go.Proofs.YthpgglegdhjihaaGreatDoor.R
end

section
namespace Go.Proofs.YthpgglegdhjihaaGreatDoor.Q
open Go.Shelf
open Go.RowKit Go.Proofs.YthpgglegdhjihaaGreatDoor.Q Go.Proofs.YthpgglegdhjihaaGreatDoorW.PrintWords Go.Proofs.YthpgglegdhjihaaGreatDoorW.PrintLast Go.Proofs.YthpgglegdhjihaaGreatDoorW.PrintMore
set_option linter.unusedVariables false
set_option linter.unusedSimpArgs false
/-- A block holds these cells. -/
def CellsAt (W : World) (B : Nat) (t : TypeId) (cs : Array Value) : Prop := W.heap[B]? = some (.cells cs t (0, 0))
theorem CellsAt.lt {W : World} {B : Nat} {t : TypeId} {cs : Array Value} (h : CellsAt W B t cs) : B < W.heap.size := (Array.getElem?_eq_some_iff.1 h).1
theorem CellsAt.new (W : World) (t : TypeId) (cs : Array Value) : CellsAt (W.alloc (.cells cs t)) W.heap.size t cs := World.alloc_heap_new W _
theorem CellsAt.kept {W W' : World} {row : Option Nat} {B : Nat} {t : TypeId} {cs : Array Value} (h : CellsAt W B t cs) (hg : W.grownBy W' row) (hne : some B ≠ row) : CellsAt W' B t cs := (hg.block B h.lt hne).trans h
theorem CellsAt.below {W W' : World} {B n : Nat} {t : TypeId} {cs : Array Value} (h : CellsAt W B t cs) (hb : Below n W W') (hn : B < n) : CellsAt W' B t cs := (hb.block B hn).trans h
theorem CellsAt.alloc {W : World} {B : Nat} {t : TypeId} {cs : Array Value} (h : CellsAt W B t cs) (o : Obj) : CellsAt (W.alloc o) B t cs := (Below.heap_alloc W o B h.lt).trans h
theorem CellsAt.cell {W : World} {B : Nat} {t : TypeId} {cs : Array Value} (h : CellsAt W B t cs) (j : Nat) : W.cell? ⟨B, j, none⟩ = cs[j]? := by
  simp [World.cell?, show W.heap[B]? = _ from h]
theorem cellsAt_own {β : Type} (B : Nat) (t : TypeId) (f : β → Array Value) : Own (fun s W => CellsAt W B t (f s)) := fun s X Y row hs hg hrow =>
  hs.kept hg (fun e' => by obtain ⟨o, ho, hc⟩ := hrow B e'.symm; rw [show X.heap[B]? = _ from hs] at ho; cases ho; cases hc)
/-- What has come when k rounds are over. -/
def upto {α : Type} (f : Nat → α) (k : Nat) : List α := (List.range k).map f
theorem upto_succ {α : Type} (f : Nat → α) (k : Nat) : upto f (k + 1) = upto f k ++ [f k] := by simp [upto, List.range_succ]
theorem upto_length {α : Type} (f : Nat → α) (k : Nat) : (upto f k).length = k := by simp [upto]
/-- What a round that goes on keeps: what lay below, and the box of the slice. -/
def KpB (n₀ Bs : Nat) (W W' : World) : Prop := Below n₀ W W' ∧ W'.heap[Bs]? = W.heap[Bs]?
theorem KpB.refl (n₀ Bs : Nat) (W : World) : KpB n₀ Bs W W := ⟨Below.refl _ _, rfl⟩
theorem KpB.trans {n₀ Bs : Nat} {A B C : World} (h : KpB n₀ Bs A B) (k : KpB n₀ Bs B C) : KpB n₀ Bs A C := ⟨h.1.trans k.1, k.2.trans h.2⟩
theorem kpB_b {n₀ Bs : Nat} {w : World} (h0 : n₀ ≤ w.heap.size) (hB : Bs < w.heap.size) : ∀ (W : World) (l : Nat) (o o' : Obj), w.heap.size ≤ l → W.heap[l]? = some o → o.isCells = false → o.isWalk = false → KpB n₀ Bs W (W.putObj l o') :=
  fun W l o o' hl h1 h2 h3 => ⟨belowK_b h0 W l o o' hl h1 h2 h3, World.putObj_heap_other (by omega)⟩
end Go.Proofs.YthpgglegdhjihaaGreatDoor.Q
end

section
namespace Go.Proofs.YthpgglegdhjihaaGreatDoor.Q
open Go.RowKit Go.Proofs.YthpgglegdhjihaaGreatDoor.Q Go.Proofs.YthpgglegdhjihaaGreatDoorW.PrintWords Go.Proofs.YthpgglegdhjihaaGreatDoorW.PrintLast Go.Proofs.YthpgglegdhjihaaGreatDoorW.PrintMore
set_option linter.unusedVariables false
set_option linter.unusedSimpArgs false
set_option maxHeartbeats 2000000 in
set_option maxRecDepth 100000 in
theorem bld_copyCheck (B b : Nat) (bs : List Value) (w : World) (h : Lib.IsBuilderF 135 5 B b bs w) :
    Calls Tryz.prog 143 #[.pointer (some ⟨b, 0, none⟩)] w fun e w' => e = .returned (.tuple #[]) ∧ (Lib.BuilderAtF 135 5 B b (.pointer (some ⟨b, 0, none⟩)) bs w' ∧ Below B w w' ∧ Lib.OthersKept 5 (some b) w w') := by
  have hsz : (Tryz.prog.info? 135).map (·.size) = some 2 := by kernel_rfl
  obtain ⟨j, hj, hjs⟩ := Option.map_eq_some_iff.1 hsz
  rcases h with h | h
  · have h' := h
    obtain ⟨hB, v, hbk, hown, hne⟩ := h'
    have c0 : w.cell? ⟨b, 0, none⟩ = some (.pointer none) := by rw [Lib.cell_of_heap hbk]; rfl
    have c1 : w.cell? ⟨b, 1, none⟩ = some v := by rw [Lib.cell_of_heap hbk]; rfl
    have f0 : w.frozen? ⟨b, 0, none⟩ = false := Lib.frozen_of_heap hbk 0
    go_enter Tryz.func143, Tryz.ntmps143
    go_wp2
    rw [Lib.run_to_unsafe w ⟨b, 0, none⟩ Tryz.underlying133 Tryz.underlying160 hj (by rw [hjs]; decide) h.shape (Nat.zero_lt_succ 1)]
    simp only [Result.andThen]
    rw [Oper.upon_value]
    go_wp2
    rw [run_callFunc_extern Tryz.func149 (by kernel_rfl) (by kernel_rfl) (by kernel_rfl) (e := Extern.AbiNoEscape.same) (by kernel_rfl)]
    rw [Lib.run_noEscape]
    simp only [Result.andThen]
    rw [Oper.upon_value]
    go_wp2
    rw [Lib.run_from_unsafe w ⟨b, 0, none⟩ Tryz.underlying160 Tryz.underlying133 hj h.shape (by kernel_rfl)]
    simp only [Result.andThen]
    rw [Oper.upon_value]
    go_wp2
    go_end0
    exact ⟨rfl, h.used _, (Below.refl B w).setCell (p := ⟨b, 0, none⟩) h.1 _, (Lib.OthersKept.refl _ _ w).setCell ⟨b, 0, none⟩ rfl _⟩
  · obtain ⟨hB, v, hbk, hown, hne⟩ := id h
    have c0 : w.cell? ⟨b, 0, none⟩ = some (.pointer (some ⟨b, 0, none⟩)) := by rw [Lib.cell_of_heap hbk]; rfl
    go_enter Tryz.func143, Tryz.ntmps143
    go_wp2
    rw [Lib.run_neq_ptr_same w _ Tryz.underlying133 hj]
    go_wp2
    go_end0
    exact ⟨rfl, h, Below.refl B _, Lib.OthersKept.refl _ _ _⟩
theorem infoByte : (Tryz.prog.info? 5).map (fun i => (i.zero, i.size, i.bytes)) = some (some (.int .u8 0), 1, 1) := by kernel_rfl
set_option maxHeartbeats 2000000 in
set_option maxRecDepth 100000 in
theorem bld_WriteString (B b : Nat) (bs : List Value) (s : ByteArray) (w : World) (h : Lib.IsBuilderF 135 5 B b bs w) (hlen : bs.length + s.size ≤ 140737488355328) (hBw : B ≤ w.heap.size) :
    Calls Tryz.prog 128 #[.pointer (some ⟨b, 0, none⟩), .string s] w fun e w' => e = .returned (.tuple #[.int .i64 s.size, .nilIface]) ∧ (Lib.BuilderAtF 135 5 B b (.pointer (some ⟨b, 0, none⟩)) (bs ++ Lib.strCells s) w' ∧ Below B w w' ∧ Lib.OthersKept 5 (some b) w w') := by
  obtain ⟨i0, hi, hz0, hz1, hz2⟩ := info_parts infoByte
  go_enter Tryz.func128, Tryz.ntmps128
  go_wp2_with (go_at_call 143; refine (bld_copyCheck B b bs _ h).mono ?_)
  rintro e w1 ⟨rfl, h1, hb1, hk1⟩
  obtain ⟨hB, v, hbk, hown, hne⟩ := h1
  have c0 : w1.cell? ⟨b, 0, none⟩ = some (.pointer (some ⟨b, 0, none⟩)) := by rw [Lib.cell_of_heap hbk]; rfl
  have c1 : w1.cell? ⟨b, 1, none⟩ = some v := by rw [Lib.cell_of_heap hbk]; rfl
  go_wp2_with (at_builtin; refine Lib.wpList_append_own_stringF _ rfl _ _ 56 9 rfl B 5 i0 Tryz.underlying56 Tryz.underlying9 hi hz0 hz1 hz2 _ _ _ rfl hown s rfl ?c3 ?c4 ?c5 ?_)
  case c3 => unfold maxLen; omega
  case c4 => omega
  case c5 => have := hb1.size; omega
  intro v' w2 hown' hgrow _
  have hlt : b < w1.heap.size := (Array.getElem?_eq_some_iff.1 hbk).1
  have hb2 : w2.heap[b]? = some (.cells #[.pointer (some ⟨b, 0, none⟩), v] 135 (0, 0)) := by
    rw [hgrow.block b hlt (fun e => hne e.symm)]
    exact hbk
  have d0 : w2.cell? ⟨b, 0, none⟩ = some (.pointer (some ⟨b, 0, none⟩)) := by rw [Lib.cell_of_heap hb2]; rfl
  have d1 : w2.cell? ⟨b, 1, none⟩ = some v := by rw [Lib.cell_of_heap hb2]; rfl
  have f1 : w2.frozen? ⟨b, 1, none⟩ = false := Lib.frozen_of_heap hb2 1
  obtain ⟨ao, n', cap, rfl⟩ : ∃ ao n' cap, v' = .slice ao n' cap := by
    rcases hown'.2 with ⟨hv, _⟩ | ⟨g, cap, cur, fz, hv, _⟩
    · exact ⟨_, _, _, hv⟩
    · exact ⟨_, _, _, hv⟩
  go_wp2
  go_ret2
  refine ⟨rfl, ?_, ?_, (hk1.grown hgrow (Lib.ownsRowF_kind hown)).setCell ⟨b, 1, none⟩ rfl _⟩
  · exact Lib.BuilderAtF.put (T := 135) (e := 5) hB hb2 (bs' := bs ++ Lib.strCells s) (by simpa [Lib.strCells_length] using hown') (by decide)
  · exact (hb1.grown hgrow (by have := hb1.size; omega) (fun k hk => (hown.lt k hk).1)).setCell (p := ⟨b, 1, none⟩) hB _
end Go.Proofs.YthpgglegdhjihaaGreatDoor.Q
end

section
namespace Go.Proofs.YthpgglegdhjihaaGreatDoor.Q
open Go.Shelf
open Go.RowKit Go.Proofs.YthpgglegdhjihaaGreatDoor.Q Go.Proofs.YthpgglegdhjihaaGreatDoorW.PrintWords Go.Proofs.YthpgglegdhjihaaGreatDoorW.PrintLast Go.Proofs.YthpgglegdhjihaaGreatDoorW.PrintMore
set_option linter.unusedVariables false
set_option linter.unusedSimpArgs false
attribute [local go_sem] Oper.semAt_some
def encI (x : Int × Int) : Array Value := #[.int .i64 x.1, .int .i64 x.2]
def bwI (zs : List Int) (j : Nat) : Int × Int := ((zs.length : Int) - 1 - j, rd zs ((zs.length : Int) - 1 - j))
set_option maxRecDepth 100000 in
set_option maxHeartbeats 2000000 in
theorem backI1_in {α : Type} (pr : α → Int × Int) (f : Nat → α) (F : Fence) (n : Nat) (h7 : F.fn 137) (hro : F.round = none) (hn : 1 ≤ n) (l Bs : Nat) (w0 : World) (A : Option Addr) (cap : Nat) (zs : List Int) (hcap : zs.length ≤ cap) (hlen : zs.length ≤ 1152921504606846976)
    (hC : Kd.C (Kd.int .i64) w0 A zs.length zs) (hf : ∀ k, k < zs.length → pr (f k) = bwI zs k) (J Jx : List α → World → Prop)
    (hY : ∀ pre x W, J pre W → pre.length < zs.length → YieldAt F (n - 1) Tryz.prog l (encI (pr x)) W fun e W' =>
      (e = .returned (.bool true) ∧ J (pre ++ [x]) W' ∧ KpB w0.heap.size Bs W W') ∨ (e = .returned (.bool false) ∧ Jx (pre ++ [x]) W'))
    (W : World) (hB : Below w0.heap.size w0 W) (hBs : CellsAt W Bs 106 #[.slice A zs.length cap]) (h0 : J [] W) :
    CallsIn F n Tryz.prog 137 #[.func (.yield l) #[] #[], .pointer (some ⟨Bs, 0, none⟩)] W fun e W' => (∃ v, e = .returned v) ∧
      ((∃ ys, ys = upto f zs.length ∧ J ys W') ∨ (∃ pre, (∃ k, k ≤ zs.length ∧ pre = upto f k) ∧ Jx pre W')) := by
  refine callsIn_of_wp Tryz.func137 rfl h7 ?_ hro
  simp only [Tryz.ntmps137, List.size_toArray, List.length_cons, List.length_nil, Nat.reduceAdd, Nat.reduceSub, Array.replicate_succ, Array.replicate_zero, List.push_toArray, List.append_toArray, List.nil_append, List.cons_append]
  have e1 : wrap64 ((zs.length : Int) - 1) = (zs.length : Int) - 1 := by unfold wrap64; omega
  have hc0 : W.cell? ⟨Bs, 0, none⟩ = some (.slice A zs.length cap) := hBs.cell 0
  gi_wp2
  gi_loopw [3] (fun i wr => ∃ k : Nat, k ≤ zs.length ∧ i = .int .i64 ((zs.length : Int) - 1 - k) ∧ J (upto f k) wr ∧ KpB w0.heap.size Bs W wr)
    (fun i _ => (intOf i + 1).toNat)
  case atStart => exact ⟨0, Nat.zero_le _, by simp [*], h0, KpB.refl _ _ _⟩
  case round =>
    obtain ⟨k, hk, rfl, hJs, hnx⟩ := hrel
    have hbx : CellsAt wr Bs 106 #[.slice A zs.length cap] := hnx.2.trans hBs
    have hc1 : wr.cell? ⟨Bs, 0, none⟩ = some (.slice A zs.length cap) := hbx.cell 0
    have hCr := Kd.C_below hC (hB.trans hnx.1)
    by_cases hlt : k < zs.length
    · obtain ⟨fn, tmps, assign, body, hy, hR⟩ := hY _ (f k) wr hJs (by rw [upto_length]; exact hlt)
      rw [hf k hlt] at hy
      simp only [encI, bwI] at hy
      obtain ⟨i, hi⟩ : ∃ i : Int, (zs.length : Int) - 1 - k = i := ⟨_, rfl⟩
      rw [hi] at hy ⊢
      have p0 : 0 ≤ i := by omega
      have q0 : i < (zs.length : Int) := by omega
      obtain ⟨ad, eA, hx0⟩ := Kd.at_int hCr i p0 q0
      subst eA
      have p0' := eq_true p0
      have q0' := eq_true q0
      have d0 : decide (i < 0) = false := decide_eq_false (by omega)
      have d1 : decide (0 ≤ i) = true := decide_eq_true p0
      gi_wp2
      refine hR.mono ?_
      rintro e W3 (⟨rfl, hJ3, hk3⟩ | ⟨rfl, hJx3⟩)
      · have e2 : wrap64 (i - 1) = i - 1 := by unfold wrap64; omega
        gi_wp2
        go_roundw
        case rel => exact ⟨k + 1, by omega, by simp [*]; omega, by rw [upto_succ]; exact hJ3, hnx.trans hk3⟩
        case measure => simp [intOf, e2]; omega
      · gi_wp2
        refine bodyPost_ret (results_none rfl _ _ _) rfl ?_
        exact ⟨⟨_, rfl⟩, .inr ⟨_, ⟨k + 1, by omega, (upto_succ _ _).symm⟩, hJx3⟩⟩
    · obtain rfl : k = zs.length := by omega
      have d0 : decide (0 ≤ (zs.length : Int) - 1 - zs.length) = false := decide_eq_false (by omega)
      gi_wp2
      go_end0
      exact ⟨⟨_, rfl⟩, .inl ⟨_, rfl, hJs⟩⟩
set_option maxHeartbeats 1000000 in
theorem backI_in (F : Fence) (n : Nat) (h5 : F.fn 125) (hro : F.round = none) (a : Option Addr) (len cap : Nat) (w : World) :
    CallsIn F n Tryz.prog 125 #[.slice a len cap] w fun e w' => e = .returned (.func (.func 137) #[] #[.pointer (some ⟨w.heap.size, 0, none⟩)]) ∧ w' = w.alloc (.cells #[.slice a len cap] 106) := by
  refine callsIn_of_wp Tryz.func125 rfl h5 ?_ hro
  simp only [Tryz.ntmps125, List.size_toArray, List.length_cons, List.length_nil, Nat.reduceAdd, Nat.reduceSub, Array.replicate_succ, Array.replicate_zero, List.push_toArray, List.append_toArray, List.nil_append, List.cons_append]
  gi_wp2
  go_ret
  exact ⟨rfl, rfl⟩
theorem backI_stops {α : Type} (pr : α → Int × Int) (f : Nat → α) (F : Fence) (n : Nat) (h7 : F.fn 137) (hro : F.round = none) (hn : 1 ≤ n) (Bs : Nat) (w0 : World) (A : Option Addr) (cap : Nat) (zs : List Int) (hcap : zs.length ≤ cap) (hlen : zs.length ≤ 1152921504606846976)
    (hC : Kd.C (Kd.int .i64) w0 A zs.length zs) (hf : ∀ k, k < zs.length → pr (f k) = bwI zs k) (w : World) (hB : Below w0.heap.size w0 w) (hBs : CellsAt w Bs 106 #[.slice A zs.length cap]) :
    SeqStopsK F n Tryz.prog 137 #[.pointer (some ⟨Bs, 0, none⟩)] (fun x => encI (pr x)) (KpB w0.heap.size Bs) (fun ys => ys = upto f zs.length)
      (fun pre => ∃ k, k ≤ zs.length ∧ pre = upto f k) zs.length w := fun l J Jx W hW _ _ hY h0 =>
  backI1_in pr f F n h7 hro hn l Bs w0 A cap zs hcap hlen hC hf J Jx hY W (hB.trans (hW.mono hB.size)) (hBs.below hW hBs.lt) h0
theorem grownBy_of_below {W W' : World} (h : Below W.heap.size W W') : W.grownBy W' none := ⟨h.os, h.tape, h.output, h.size, fun k hk _ => h.block k hk⟩
theorem builder_below {T e : TypeId} {B b : Nat} {bs : List Value} {W W' : World} (h : Lib.IsBuilderF T e B b bs W) (hb : Below W.heap.size W W') : Lib.IsBuilderF T e B b bs W' := by
  have key : ∀ p, Lib.BuilderAtF T e B b p bs W → Lib.BuilderAtF T e B b p bs W' := fun p h => by
    obtain ⟨hB, v, hbk, hown, hne⟩ := id h
    refine ⟨hB, v, (hb.block b h.lt).trans hbk, hown.kept (grownBy_of_below hb) ?_, hne⟩
    by_cases hv : v.ownBlock = none
    · exact .inl hv
    · exact .inr hv
  exact h.imp (key _) (key _)
theorem keepsFrom_of_others {e : TypeId} {b n : Nat} {W W' : World} (hs : W.heap.size ≤ W'.heap.size) (h : Lib.OthersKept e (some b) W W') (hc : ∃ cs t fz, W.heap[b]? = some (.cells cs t fz)) : KeepsFrom n W W' :=
  ⟨hs, fun k o _ hk ho => h k o hk (fun e' => by cases e'; obtain ⟨cs, t, fz, hc⟩ := hc; rw [hk] at hc; cases hc; cases ho) (fun c fz e' => by subst e'; cases ho)⟩
theorem keepsFrom_of_below {n : Nat} {W W' : World} (h : Below W.heap.size W W') : KeepsFrom n W W' :=
  ⟨h.size, fun k o _ hk _ => (h.block k (Array.getElem?_eq_some_iff.1 hk).1).trans hk⟩
/-- A builder stays one while what is no cells turns. -/
theorem builder_own {β : Type} (T e : TypeId) (B b : Nat) (f : β → List Value) : Own (fun s W => Lib.IsBuilderF T e B b (f s) W) := fun s X Y row hs hg hr => by
  have key : ∀ p, Lib.BuilderAtF T e B b p (f s) X → Lib.BuilderAtF T e B b p (f s) Y := fun p h => by
    obtain ⟨hB, v, hbk, hown, hne⟩ := id h
    refine ⟨hB, v, (hg.block b h.lt (fun e' => ?_)).trans hbk, hown.kept hg ?_, hne⟩
    · obtain ⟨o, ho, hc⟩ := hr b e'.symm
      rw [hbk] at ho; cases ho; cases hc
    · by_cases hv : v.ownBlock = none
      · exact .inl hv
      · refine .inr fun e' => ?_
        obtain ⟨g, hgk⟩ := Option.ne_none_iff_exists'.1 hv
        obtain ⟨o, ho, hc⟩ := hr g (by rw [← e', hgk])
        obtain ⟨c, fz, hk⟩ := Lib.ownsRowF_kind hown g hgk
        rw [hk] at ho; cases ho; cases hc
  exact hs.imp (key _) (key _)
/-- A limb, and its place. -/
abbrev Limb := { x : Int × Int // 0 ≤ x.2 ∧ x.2 ≤ 9999 }
theorem rd_limb {zs : List Int} (hz : ∀ y ∈ zs, 0 ≤ y ∧ y ≤ 9999) (i : Int) : 0 ≤ rd zs i ∧ rd zs i ≤ 9999 := by
  unfold rd
  rw [List.getD_eq_getElem?_getD]
  cases h : zs[i.toNat]? with
  | none => simp
  | some y => exact hz y (List.mem_of_getElem? h)
def limbAt (zs : List Int) (hz : ∀ y ∈ zs, 0 ≤ y ∧ y ≤ 9999) (k : Nat) : Limb := ⟨bwI zs k, rd_limb hz _⟩
/-- A limb's figures: the top one as it is, any other four figures wide. -/
def piece (n : Int) (x : Int × Int) : List UInt8 := if x.1 < n - 1 then Lib.repeatL [48] (4 - (Lib.itoa x.2).length) ++ Lib.itoa x.2 else Lib.itoa x.2
theorem decDigits_len : ∀ (k u : Nat), u < 10 ^ (k + 1) → (Lib.decDigits u).length ≤ k + 1 := by
  intro k
  induction k with
  | zero => intro u h; rw [Lib.decDigits, dif_pos (by simpa using h)]; simp
  | succ k ih =>
    intro u h
    rw [Lib.decDigits]
    by_cases hu : u < 10
    · rw [dif_pos hu]; simp
    · rw [dif_neg hu, List.length_append]
      have := ih (u / 10) (by rw [Nat.pow_succ] at h; omega)
      simp only [List.length_cons, List.length_nil]
      omega
theorem itoa_len (x : Int) (h0 : 0 ≤ x) (h1 : x ≤ 9999) : (Lib.itoa x).length ≤ 4 := by
  unfold Lib.itoa
  rw [if_neg (by omega)]
  exact decDigits_len 3 x.toNat (by omega)
/-- Limbs as a text. -/
def textF (zs : List Int) : List UInt8 := if zs = [] then [48] else (upto (bwI zs) zs.length).flatMap (piece zs.length)
end Go.Proofs.YthpgglegdhjihaaGreatDoor.Q
end

section
namespace Go.Proofs
open Go.Shelf
def Tryz.lays169_ren : Go.Shelf.Ren := ⟨fun | 169 => 129 | n => n, fun | 70 => 133 | 9 => 9 | 0 => 0 | 72 => 135 | 37 => 56 | 127 => 152 | 3 => 3 | 5 => 5 | n => n, fun | n => n⟩
theorem Tryz.lays169 : Go.Proofs.Lays.n169 Tryz.prog Tryz.lays169_ren := {
  mixed := by kernel_rfl
  f169 := Tryz.func129.trans (congrArg some (by kernel_rfl))
  t0 := Tryz.underlying0
  a0 := Tryz.isAgg0
  z0 := Tryz.sizeOf0
  v0 := Tryz.zeroValue0
  t3 := Tryz.underlying3
  a3 := Tryz.isAgg3
  z3 := Tryz.sizeOf3
  v3 := Tryz.zeroValue3
  t9 := Tryz.underlying9
  a9 := Tryz.isAgg9
  z9 := Tryz.sizeOf9
  v9 := Tryz.zeroValue9
  t37 := Tryz.underlying56
  a37 := Tryz.isAgg56
  z37 := Tryz.sizeOf56
  v37 := Tryz.zeroValue56
  t70 := Tryz.underlying133
  a70 := Tryz.isAgg133
  z70 := Tryz.sizeOf133
  v70 := Tryz.zeroValue133
  t72 := Tryz.underlying135
  a72 := Tryz.isAgg135
  z72 := Tryz.sizeOf135
  v72 := Tryz.zeroValue135
  t127 := Tryz.underlying152
  a127 := Tryz.isAgg152
  z127 := Tryz.sizeOf152
  v127 := Tryz.zeroValue152 }
theorem Tryz.Builder_Extra_169 : Builder.Extra Tryz.prog Tryz.lays169_ren := {
  sizeBuilder := by kernel_rfl
  liesBuilder := by kernel_rfl
  t5 := Tryz.underlying5
  a5 := Tryz.isAgg5
  z5 := Tryz.sizeOf5
  v5 := Tryz.zeroValue5
  infoByte := by kernel_rfl
  cellsByte := by kernel_rfl
  sizeByte := by kernel_rfl
  neB5 := by decide }
def Tryz.lays106_ren : Go.Shelf.Ren := ⟨fun | 106 => 71 | 213 => 101 | 265 => 118 | n => n, fun | 9 => 9 | 3 => 3 | n => n, fun | n => n⟩
theorem Tryz.lays106 : Go.Proofs.Lays.n106 Tryz.prog Tryz.lays106_ren := {
  mixed := by kernel_rfl
  f106 := Tryz.func71.trans (congrArg some (by kernel_rfl))
  f213 := Tryz.func101.trans (congrArg some (by kernel_rfl))
  f265 := Tryz.func118.trans (congrArg some (by kernel_rfl))
  t3 := Tryz.underlying3
  a3 := Tryz.isAgg3
  z3 := Tryz.sizeOf3
  v3 := Tryz.zeroValue3
  t9 := Tryz.underlying9
  a9 := Tryz.isAgg9
  z9 := Tryz.sizeOf9
  v9 := Tryz.zeroValue9 }
open Go.RowKit in
/-- strings.Compare: "Compare returns an integer comparing two strings lexicographically. The result will be 0 if a == b, -1 if a < b, and +1 if a > b.": IT RETURNS 'Lib.compareBytes a b'; the world is as it was. (LAID: no walk: one application.) -/
theorem Tryz.strings_Compare (a b : ByteArray) (w : World) :
    Calls Tryz.prog 71 #[.string a, .string b] w fun e w' => e = .returned (.int .i64 (Lib.compareBytes a.data.toList b.data.toList)) ∧ w' = w := Any.strings_Compare Tryz.lays106 a b w
open Go.RowKit in
/-- (*strings.Builder).String: "String returns the accumulated string.": WHATEVER THE BUILDER HOLDS; THE FORM '_k': OVER 'Lib.IsBuilderF' (a builder that 'String()' may have read), AND WITH THE FRAME THAT REACHES ABOVE THE BUILDER: 'Lib.OthersKept': every block that is not b and is no row of uint8's stands as it stood: the iterator of a range among them. (LAID: no walk: one application.) -/
theorem Tryz.Builder_String_any_k (B b : Nat) (l : List UInt8) (w : World) (h : Lib.IsBuilderF 135 5 B b (Lib.byteCells l) w) (hBw : B ≤ w.heap.size) :
    Calls Tryz.prog 129 #[.pointer (some ⟨b, 0, none⟩)] w fun e w' => e = .returned (.string ⟨l.toArray⟩) ∧ (Lib.IsBuilderF 135 5 B b (Lib.byteCells l) w' ∧ Below B w w' ∧ Lib.OthersKept 5 (some b) w w') := Any.Builder_String_any_k Tryz.lays169 Tryz.Builder_Extra_169 B b l w h hBw
def Tryz.laysM171_ren : Go.Shelf.Ren := ⟨fun | 171 => 126 | 243 => 138 | 246 => 144 | 283 => 150 | 284 => 151 | 285 => 152 | 286 => 153 | 129 => 156 | 317 => 155 | 318 => 157 | 319 => 158 | 320 => 159 | 337 => 160 | 338 => 161 | n => n, fun | 3 => 3 | 9 => 9 | 2 => 2 | 4 => 4 | 171 => 162 | 0 => 0 | 53 => 157 | 37 => 56 | 5 => 5 | 173 => 165 | 212 => 168 | 51 => 154 | 20 => 20 | 213 => 169 | 46 => 147 | 232 => 172 | 233 => 173 | n => n, fun | 17 => 1 | 18 => 2 | 19 => 3 | n => n⟩
theorem Tryz.laysM171 : Go.Proofs.LaysM.n171 Tryz.prog Tryz.laysM171_ren := {
  mixed := by kernel_rfl
  f129 := Tryz.func156.trans (congrArg some (by kernel_rfl))
  f171 := Tryz.func126.trans (congrArg some (by kernel_rfl))
  f243 := Tryz.func138.trans (congrArg some (by kernel_rfl))
  f246 := Tryz.func144.trans (congrArg some (by kernel_rfl))
  f283 := Tryz.func150.trans (congrArg some (by kernel_rfl))
  f284 := Tryz.func151.trans (congrArg some (by kernel_rfl))
  f285 := Tryz.func152.trans (congrArg some (by kernel_rfl))
  f286 := Tryz.func153.trans (congrArg some (by kernel_rfl))
  f317 := Tryz.func155.trans (congrArg some (by kernel_rfl))
  f318 := Tryz.func157.trans (congrArg some (by kernel_rfl))
  f319 := Tryz.func158.trans (congrArg some (by kernel_rfl))
  f320 := Tryz.func159.trans (congrArg some (by kernel_rfl))
  f337 := Tryz.func160.trans (congrArg some (by kernel_rfl))
  f338 := Tryz.func161.trans (congrArg some (by kernel_rfl))
  t0 := Tryz.underlying0
  a0 := Tryz.isAgg0
  z0 := Tryz.sizeOf0
  v0 := Tryz.zeroValue0
  t2 := Tryz.underlying2
  a2 := Tryz.isAgg2
  z2 := Tryz.sizeOf2
  v2 := Tryz.zeroValue2
  t3 := Tryz.underlying3
  a3 := Tryz.isAgg3
  z3 := Tryz.sizeOf3
  v3 := Tryz.zeroValue3
  t4 := Tryz.underlying4
  a4 := Tryz.isAgg4
  z4 := Tryz.sizeOf4
  v4 := Tryz.zeroValue4
  t5 := Tryz.underlying5
  a5 := Tryz.isAgg5
  z5 := Tryz.sizeOf5
  v5 := Tryz.zeroValue5
  t9 := Tryz.underlying9
  a9 := Tryz.isAgg9
  z9 := Tryz.sizeOf9
  v9 := Tryz.zeroValue9
  t20 := Tryz.underlying20
  a20 := Tryz.isAgg20
  z20 := Tryz.sizeOf20
  v20 := Tryz.zeroValue20
  t37 := Tryz.underlying56
  a37 := Tryz.isAgg56
  z37 := Tryz.sizeOf56
  v37 := Tryz.zeroValue56
  t46 := Tryz.underlying147
  a46 := Tryz.isAgg147
  z46 := Tryz.sizeOf147
  v46 := Tryz.zeroValue147
  t51 := Tryz.underlying154
  a51 := Tryz.isAgg154
  z51 := Tryz.sizeOf154
  v51 := Tryz.zeroValue154
  t53 := Tryz.underlying157
  a53 := Tryz.isAgg157
  z53 := Tryz.sizeOf157
  v53 := Tryz.zeroValue157
  t171 := Tryz.underlying162
  a171 := Tryz.isAgg162
  z171 := Tryz.sizeOf162
  v171 := Tryz.zeroValue162
  t173 := Tryz.underlying165
  a173 := Tryz.isAgg165
  z173 := Tryz.sizeOf165
  v173 := Tryz.zeroValue165
  t212 := Tryz.underlying168
  a212 := Tryz.isAgg168
  z212 := Tryz.sizeOf168
  v212 := Tryz.zeroValue168
  t213 := Tryz.underlying169
  a213 := Tryz.isAgg169
  z213 := Tryz.sizeOf169
  t232 := Tryz.underlying172
  a232 := Tryz.isAgg172
  z232 := Tryz.sizeOf172
  v232 := Tryz.zeroValue172
  t233 := Tryz.underlying173
  a233 := Tryz.isAgg173
  z233 := Tryz.sizeOf173
  v233 := Tryz.zeroValue173
  g17 := by kernel_rfl
  g18 := by kernel_rfl
  g19 := by kernel_rfl
  i0 := by kernel_rfl
  i2 := by kernel_rfl
  i3 := by kernel_rfl
  i4 := by kernel_rfl
  i5 := by kernel_rfl
  i9 := by kernel_rfl
  i20 := by kernel_rfl
  i37 := by kernel_rfl
  i46 := by kernel_rfl
  i51 := by kernel_rfl
  i53 := by kernel_rfl
  i171 := by kernel_rfl
  i173 := by kernel_rfl
  i212 := by kernel_rfl
  i232 := by kernel_rfl
  i233 := by kernel_rfl
  m17 := by kernel_rfl
  m18 := by kernel_rfl
  m19 := by kernel_rfl }
open Go.RowKit Go.Sort Go.Lib in
/-- strconv.Itoa: "Itoa is equivalent to FormatInt(int64(i), 10).": i's DECIMAL NUMERAL ('Lib.itoa': a '-' where i is negative, then the digits), FOR EVERY int. The world behind the call: the world before it, new blocks behind the heap (the library's 'var a [24]byte'), draws. (LAID: no walk: one application.) -/
theorem Tryz.strconv_Itoa (n : Int) (h0 : -9223372036854775808 ≤ n) (h1 : n ≤ 9223372036854775807) (w : World) (htab : Lib.TabIs Tryz.prog w "internal/strconv.uint64pow10" .u64 Lib.pow10Tab) :
    Calls Tryz.prog 126 #[.int .i64 n] w fun e w' => e = .returned (.string ⟨(Lib.itoa n).toArray⟩) ∧ ∃ k os, w' = grow (w.drewN k) os := Any.strconv_Itoa Tryz.laysM171 n h0 h1 w htab
def Tryz.lays105_ren : Go.Shelf.Ren := ⟨fun | 105 => 127 | 212 => 139 | 99 => 140 | 165 => 141 | 166 => 128 | 170 => 142 | 169 => 129 | 263 => 145 | 264 => 146 | 206 => 147 | 240 => 143 | 241 => 148 | 276 => 149 | 277 => 154 | n => n, fun | 9 => 9 | 3 => 3 | 4 => 4 | 20 => 20 | 0 => 0 | 46 => 147 | 109 => 148 | 5 => 5 | 72 => 135 | 76 => 142 | 51 => 154 | 146 => 155 | 53 => 157 | 148 => 158 | 70 => 133 | 37 => 56 | 75 => 141 | 127 => 152 | 164 => 160 | 80 => 120 | n => n, fun | n => n⟩
theorem Tryz.lays105 : Go.Proofs.Lays.n105 Tryz.prog Tryz.lays105_ren := {
  mixed := by kernel_rfl
  f99 := Tryz.func140.trans (congrArg some (by kernel_rfl))
  f105 := Tryz.func127.trans (congrArg some (by kernel_rfl))
  f165 := Tryz.func141.trans (congrArg some (by kernel_rfl))
  f166 := Tryz.func128.trans (congrArg some (by kernel_rfl))
  f169 := Tryz.func129.trans (congrArg some (by kernel_rfl))
  f170 := Tryz.func142.trans (congrArg some (by kernel_rfl))
  f206 := Tryz.func147.trans (congrArg some (by kernel_rfl))
  f212 := Tryz.func139.trans (congrArg some (by kernel_rfl))
  f240 := Tryz.func143.trans (congrArg some (by kernel_rfl))
  f241 := Tryz.func148.trans (congrArg some (by kernel_rfl))
  f263 := Tryz.func145.trans (congrArg some (by kernel_rfl))
  f264 := Tryz.func146.trans (congrArg some (by kernel_rfl))
  f276 := Tryz.func149.trans (congrArg some (by kernel_rfl))
  f277 := Tryz.func154.trans (congrArg some (by kernel_rfl))
  t0 := Tryz.underlying0
  a0 := Tryz.isAgg0
  z0 := Tryz.sizeOf0
  v0 := Tryz.zeroValue0
  t3 := Tryz.underlying3
  a3 := Tryz.isAgg3
  z3 := Tryz.sizeOf3
  v3 := Tryz.zeroValue3
  t4 := Tryz.underlying4
  a4 := Tryz.isAgg4
  z4 := Tryz.sizeOf4
  v4 := Tryz.zeroValue4
  t5 := Tryz.underlying5
  a5 := Tryz.isAgg5
  z5 := Tryz.sizeOf5
  v5 := Tryz.zeroValue5
  t9 := Tryz.underlying9
  a9 := Tryz.isAgg9
  z9 := Tryz.sizeOf9
  v9 := Tryz.zeroValue9
  t20 := Tryz.underlying20
  a20 := Tryz.isAgg20
  z20 := Tryz.sizeOf20
  v20 := Tryz.zeroValue20
  t37 := Tryz.underlying56
  a37 := Tryz.isAgg56
  z37 := Tryz.sizeOf56
  v37 := Tryz.zeroValue56
  t46 := Tryz.underlying147
  a46 := Tryz.isAgg147
  z46 := Tryz.sizeOf147
  v46 := Tryz.zeroValue147
  t51 := Tryz.underlying154
  a51 := Tryz.isAgg154
  z51 := Tryz.sizeOf154
  v51 := Tryz.zeroValue154
  t53 := Tryz.underlying157
  a53 := Tryz.isAgg157
  z53 := Tryz.sizeOf157
  v53 := Tryz.zeroValue157
  t70 := Tryz.underlying133
  a70 := Tryz.isAgg133
  z70 := Tryz.sizeOf133
  v70 := Tryz.zeroValue133
  t72 := Tryz.underlying135
  a72 := Tryz.isAgg135
  z72 := Tryz.sizeOf135
  v72 := Tryz.zeroValue135
  t75 := Tryz.underlying141
  a75 := Tryz.isAgg141
  z75 := Tryz.sizeOf141
  v75 := Tryz.zeroValue141
  t76 := Tryz.underlying142
  a76 := Tryz.isAgg142
  z76 := Tryz.sizeOf142
  v76 := Tryz.zeroValue142
  t109 := Tryz.underlying148
  a109 := Tryz.isAgg148
  z109 := Tryz.sizeOf148
  v109 := Tryz.zeroValue148
  t127 := Tryz.underlying152
  a127 := Tryz.isAgg152
  z127 := Tryz.sizeOf152
  v127 := Tryz.zeroValue152
  t146 := Tryz.underlying155
  a146 := Tryz.isAgg155
  z146 := Tryz.sizeOf155
  v146 := Tryz.zeroValue155
  t148 := Tryz.underlying158
  a148 := Tryz.isAgg158
  z148 := Tryz.sizeOf158
  v148 := Tryz.zeroValue158
  t164 := Tryz.underlying160
  a164 := Tryz.isAgg160
  z164 := Tryz.sizeOf160
  v164 := Tryz.zeroValue160 }
theorem Tryz.Builder_Extra_105 : Builder.Extra Tryz.prog Tryz.lays105_ren := {
  sizeBuilder := by kernel_rfl
  liesBuilder := by kernel_rfl
  t5 := Tryz.underlying5
  a5 := Tryz.isAgg5
  z5 := Tryz.sizeOf5
  v5 := Tryz.zeroValue5
  infoByte := by kernel_rfl
  cellsByte := by kernel_rfl
  sizeByte := by kernel_rfl
  neB5 := by decide }
open Go.RowKit Go.Lib in
/-- **strings.Repeat: count ≥ 0, the result within one allocation: count copies of s.** (LAID: no walk: one application.) -/
theorem Tryz.strings_Repeat (s : ByteArray) (c : Nat) (w : World) (hc : c ≤ 9223372036854775807) (hlen : s.size * c ≤ 140737488355328) :
    Calls Tryz.prog 127 #[.string s, .int .i64 c] w fun e w' => e = .returned (.string ⟨(Lib.repeatL s.data.toList c).toArray⟩) ∧ Below w.heap.size w w' := Any.strings_Repeat Tryz.lays105 Tryz.Builder_Extra_105 s c w hc hlen
end Go.Proofs
end

section
namespace Go.Proofs.YthpgglegdhjihaaGreatDoor.Q
open Go.RowKit Go.Proofs.YthpgglegdhjihaaGreatDoor.Q Go.Proofs.YthpgglegdhjihaaGreatDoorW.PrintWords Go.Proofs.YthpgglegdhjihaaGreatDoorW.PrintLast Go.Proofs.YthpgglegdhjihaaGreatDoorW.PrintMore
set_option linter.unusedVariables false
set_option linter.unusedSimpArgs false
/-- The table that strconv reads is laid. -/
def Laid (w : World) : Prop := Lib.TabIs Tryz.prog w "internal/strconv.uint64pow10" .u64 Lib.pow10Tab
theorem gPow : ∃ g, Tryz.prog.globalNamed "internal/strconv.uint64pow10" = some g := Option.isSome_iff_exists.1 (by kernel_rfl)
theorem laid_below {w W : World} (h : Laid w) (hb : Below w.heap.size w W) : Laid W := by
  obtain ⟨g, hg⟩ := gPow
  unfold Laid Lib.TabIs World.var? at h ⊢
  simp only [hg, Option.bind_some] at h ⊢
  have hlt : g < w.heap.size := by
    rcases Nat.lt_or_ge g w.heap.size with h' | h'
    · exact h'
    · simp [Array.getElem?_eq_none h'] at h
  rw [hb.block g hlt]
  exact h
end Go.Proofs.YthpgglegdhjihaaGreatDoor.Q
end

section
namespace Go.Proofs.YthpgglegdhjihaaGreatDoor.Q
open Go.Shelf
open Go.RowKit Go.Proofs.YthpgglegdhjihaaGreatDoor.Q Go.Proofs.YthpgglegdhjihaaGreatDoorW.PrintWords Go.Proofs.YthpgglegdhjihaaGreatDoorW.PrintLast Go.Proofs.YthpgglegdhjihaaGreatDoorW.PrintMore
set_option linter.unusedVariables false
set_option linter.unusedSimpArgs false
attribute [local go_sem] Oper.semAt_some
theorem piece_len (m : Int) (x : Limb) : (piece m x.1).length ≤ 4 := by
  have := itoa_len x.1.2 x.2.1 x.2.2
  unfold piece
  split
  · rw [List.length_append, Lib.repeatL_length]; simp only [List.length_cons, List.length_nil]; omega
  · exact this
theorem pieces_len (m : Int) : ∀ pre : List Limb, (pre.flatMap fun x => piece m x.1).length ≤ 4 * pre.length
  | [] => by simp
  | x :: pre => by
    have h1 := piece_len m x
    have h2 := pieces_len m pre
    rw [List.flatMap_cons, List.length_append, List.length_cons]
    omega
theorem text_round {w W wm w3 : World} {n B0 : Nat} {m : Int} {cs : Array Value} {pre : List Limb} {x : Limb} {s : ByteArray} (hn : n = w.heap.size)
    (tB : Lib.IsBuilderF 135 5 w.heap.size (w.heap.size + 1) (Lib.byteCells (pre.flatMap fun x => piece m x.1)) W) (t1 : CellsAt W w.heap.size 106 cs) (t0 : CellsAt W (w.heap.size + 1 + 1) 106 cs) (tb : Below w.heap.size w W) (hb : Below W.heap.size W wm)
    (hB3 : Lib.BuilderAtF 135 5 w.heap.size (w.heap.size + 1) (.pointer (some ⟨w.heap.size + 1, 0, none⟩)) (Lib.byteCells (pre.flatMap fun x => piece m x.1) ++ Lib.strCells s) w3) (hb3 : Below w.heap.size wm w3) (hk3 : Lib.OthersKept 5 (some (w.heap.size + 1)) wm w3) (hs : s.data.toList = piece m x.1) :
    KeepsFrom B0 W w3 ∧ KpB w.heap.size (w.heap.size + 1 + 1) W w3 ∧ ((Lib.IsBuilderF 135 5 w.heap.size (w.heap.size + 1) (Lib.byteCells ((pre ++ [x]).flatMap fun x => piece m x.1)) w3 ∧ CellsAt w3 w.heap.size 106 cs) ∧ CellsAt w3 (w.heap.size + 1 + 1) 106 cs) ∧ Below w.heap.size w w3 := by
  have tBm := builder_below tB hb
  have hcell : ∃ cs t fz, wm.heap[w.heap.size + 1]? = some (.cells cs t fz) := by
    obtain h | h := tBm <;> (obtain ⟨_, v, hbk, _⟩ := h; exact ⟨_, _, _, hbk⟩)
  have hno : ∀ c fz, (Obj.cells cs 106 (0, 0)) ≠ .cells c 5 fz := fun c fz e => by injection e with _ e2 _; exact absurd e2 (by decide)
  have k1 : CellsAt w3 w.heap.size 106 cs := hk3 _ _ (t1.below hb t1.lt) (by simp) hno
  have k0 : CellsAt w3 (w.heap.size + 1 + 1) 106 cs := hk3 _ _ (t0.below hb t0.lt) (by simp) hno
  have hbW : Below w.heap.size W wm := hb.mono tb.size
  refine ⟨(keepsFrom_of_below hb).trans (keepsFrom_of_others hb3.size hk3 hcell), ⟨hbW.trans hb3, k0.trans t0.symm⟩, ⟨⟨.inr ?_, k1⟩, k0⟩, (tb.trans hbW).trans hb3⟩
  rw [List.flatMap_append, List.flatMap_singleton, Lib.byteCells_append, ← hs]
  exact hB3
set_option maxRecDepth 100000 in
set_option maxHeartbeats 4000000 in
theorem impl_text.calls (A0 : Option Addr) (c0 : Nat) (l0 : List Int) (w : World) (hlaid : Laid w) (hr0 : Kd.C (Kd.int .i64) w A0 l0.length l0) (hc0 : l0.length ≤ c0) (hz : ∀ y ∈ l0, 0 ≤ y ∧ y ≤ 9999) (hlen : l0.length ≤ 1000000) :
    Calls Tryz.prog 107 #[.slice A0 l0.length c0] w fun e w' => e = .returned (.string ⟨(textF l0).toArray⟩) ∧ Below w.heap.size w w' := by
  have HR0 := Aside0.mk hr0
  have HC0 := Aside0.mk hc0
  have HL := Aside0.mk hlen
  clear hr0 hc0 hlen
  by_cases hnil : l0 = []
  · subst hnil
    refine (callsIn_wide (n := 9)).1 ?_
    refine callsIn_of_wp_marks Tryz.func107 rfl trivial ?_ rfl
    simp only [Tryz.ntmps107, List.size_toArray, List.length_cons, List.length_nil, Nat.reduceAdd, Nat.reduceSub, Array.replicate_succ, Array.replicate_zero, List.push_toArray, List.append_toArray, List.nil_append, List.cons_append]
    gi_wp2
    exact ⟨_, results_tmp rfl _ _ _, rfl, (Below.refl _ w).alloc (Nat.le_refl _) _⟩
  · have hn : (l0.length : Int) ≠ 0 := by have := List.length_pos_iff.2 hnil; omega
    have hn1 : ((l0.length : Int) == 0) = false := beq_eq_false_iff_ne.mpr hn
    refine (callsIn_wide (n := 9)).1 ?_
    refine callsIn_of_wp_marks Tryz.func107 rfl trivial ?_ rfl
    simp only [Tryz.ntmps107, List.size_toArray, List.length_cons, List.length_nil, Nat.reduceAdd, Nat.reduceSub, Array.replicate_succ, Array.replicate_zero, List.push_toArray, List.append_toArray, List.nil_append, List.cons_append]
    gi_wp2_with (refine ⟨trivial, ?_⟩; gi_at_call 125; refine (backI_in Fence.wide _ trivial rfl _ _ _ _).mono ?_; rintro e w6 ⟨rfl, hw6⟩)
    have e0 : ((upto (limbAt l0 hz) l0.length).flatMap fun x => piece l0.length x.1) = textF l0 := by
      unfold textF upto
      rw [if_neg hnil, List.flatMap_map, List.flatMap_map]
      rfl
    obtain ⟨W0, hW0⟩ : ∃ W0, ((w.alloc (.cells #[.slice A0 l0.length c0] 106)).alloc (.cells #[.pointer none, .slice none 0 0] 135)).alloc (.cells #[.slice A0 l0.length c0] 106) = W0 := ⟨_, rfl⟩
    have s1 : CellsAt W0 w.heap.size 106 #[.slice A0 l0.length c0] := by rw [← hW0]; exact ((CellsAt.new w _ _).alloc _).alloc _
    have s0 : CellsAt W0 (w.heap.size + 1 + 1) 106 #[.slice A0 l0.length c0] := by rw [← hW0]; have := CellsAt.new ((w.alloc (.cells #[.slice A0 l0.length c0] 106)).alloc (.cells #[.pointer none, .slice none 0 0] 135)) 106 #[.slice A0 l0.length c0]; rwa [World.size_alloc, World.size_alloc] at this
    have sB : Lib.IsBuilderF 135 5 w.heap.size (w.heap.size + 1) (Lib.byteCells []) W0 := by
      have h : CellsAt W0 (w.heap.size + 1) 135 #[.pointer none, .slice none 0 0] := by rw [← hW0]; have := (CellsAt.new (w.alloc (.cells #[.slice A0 l0.length c0] 106)) 135 #[.pointer none, .slice none 0 0]).alloc (.cells #[.slice A0 l0.length c0] 106); rwa [World.size_alloc] at this
      exact .inl ⟨by omega, .slice none 0 0, h, World.ownsRowF_nil _ _ _ _, by simp [Value.ownBlock]⟩
    have hsz : W0.heap.size = w.heap.size + 1 + 1 + 1 := by rw [← hW0]; simp
    have hBW0 : Below w.heap.size w W0 := by rw [← hW0]; exact (((Below.refl _ w).alloc (Nat.le_refl _) _).alloc (by simp) _).alloc (by simp; omega) _
    rw [hW0]
    clear hW0 hw6
    refine wpIn_rangeFunc_ownH rfl (by decide) (gf := 137) (lb := #[.pointer (some ⟨w.heap.size + 1 + 1, 0, none⟩)]) rfl trivial (enters_of Tryz.func137 (by kernel_rfl) rfl)
      (backI_stops (fun x : Limb => x.1) (limbAt l0 hz) Fence.wide _ trivial rfl (by decide) (w.heap.size + 1 + 1) w A0 c0 l0 HC0.out (by have := HL.out; omega) HR0.out (fun _ _ => rfl) W0 hBW0 s0) KpB.trans (kpB_b (by omega) (by omega)) (Below.refl _ _) (fun _ => rfl)
      (fun pre W => ((Lib.IsBuilderF 135 5 w.heap.size (w.heap.size + 1) (Lib.byteCells (pre.flatMap fun x => piece l0.length x.1)) W ∧ CellsAt W w.heap.size 106 #[.slice A0 l0.length c0]) ∧ CellsAt W (w.heap.size + 1 + 1) 106 #[.slice A0 l0.length c0]) ∧ Below w.heap.size w W)
      (fun _ _ _ => False)
      (OwnFrom.and (OwnFrom.and (OwnFrom.and (Own.from (builder_own _ _ _ _ _) _) (Own.from (cellsAt_own _ _ _) _)) (Own.from (cellsAt_own _ _ _) _)) (ownFrom_below (Nat.le_refl _) (by omega)))
      (fun _ _ _ _ _ hs _ _ => hs)
      ⟨⟨⟨sB, s1⟩, s0⟩, hBW0⟩
      (fun x a' _ => a' = { tmps := #[.slice A0 l0.length c0, .pointer (some ⟨w.heap.size, 0, none⟩), .string ⟨#[]⟩, .pointer (some ⟨w.heap.size + 1, 0, none⟩), .int .i64 x.1.1, .int .i64 x.1.2, undef, .slice A0 l0.length c0, .int .i64 l0.length, .bool false, .slice A0 l0.length c0, .func (.func 137) #[] #[.pointer (some ⟨w.heap.size + 1 + 1, 0, none⟩)], .int .i64 x.1.1, .int .i64 x.1.2, undef, undef, undef, undef, undef, undef, undef, undef, undef, undef, undef, undef, undef, undef, undef, undef], defers := [] })
      (fun _ _ _ _ _ _ hs _ _ => hs)
      ?assign ?body ?done ?stop
    case assign =>
      rintro l pre x W K hI hK
      simp only [encI]
      gi_wp2
      exact hK _ _ (KeepsFrom.refl _ _) (KpB.refl _ _ _) hI rfl
    case body =>
      rintro l pre x a' W hl ⟨r, hr⟩ ⟨⟨⟨tB, t1⟩, t0⟩, tb⟩ rfl hlt
      have hx0 := x.2.1
      have hx1 := x.2.2
      have u1 : W.cell? ⟨w.heap.size, 0, none⟩ = some (.slice A0 l0.length c0) := t1.cell 0
      have hl4 := itoa_len x.1.2 hx0 hx1
      gi_wp2
      refine ⟨trivial, ?_⟩
      refine (CallsIn.inRound l (callsIn_wide.2 (Tryz.strconv_Itoa x.1.2 (by omega) (by omega) W (laid_below hlaid tb)))).mono ?_
      rintro e w1 ⟨rfl, k1, os1, hw1⟩
      have hb1 : Below W.heap.size W w1 := by rw [hw1]; exact Go.Lib.below_grow _ _ (Nat.le_refl _) _ _
      have u1' : w1.cell? ⟨w.heap.size, 0, none⟩ = some (.slice A0 l0.length c0) := (t1.below hb1 t1.lt).cell 0
      have ew : wrap64 ((l0.length : Int) - 1) = (l0.length : Int) - 1 := by have := HL.out; unfold wrap64; omega
      clear hw1
      by_cases hlt2 : x.1.1 < (l0.length : Int) - 1
      · have hd : decide (x.1.1 < (l0.length : Int) - 1) = true := decide_eq_true hlt2
        gi_wp2
        refine ⟨trivial, ?_⟩
        have hc : (4 - ((Lib.itoa x.1.2).length : Int)) = ((4 - (Lib.itoa x.1.2).length : Nat) : Int) := by omega
        rw [hc]
        refine (CallsIn.inRound l (callsIn_wide.2 (Tryz.strings_Repeat ⟨#[48]⟩ (4 - (Lib.itoa x.1.2).length) w1 (by omega) (by show 1 * _ ≤ _; omega)))).mono ?_
        rintro e w2 ⟨rfl, hb2⟩
        have hrl := Lib.repeatL_length [48] (4 - (Lib.itoa x.1.2).length)
        have hov : (9223372036854775807 < (Lib.repeatL [48] (4 - (Lib.itoa x.1.2).length)).length + (Lib.itoa x.1.2).length) = False := eq_false (by rw [hrl]; simp only [List.length_cons, List.length_nil]; omega)
        gi_wp2
        refine ⟨trivial, ?_⟩
        refine (CallsIn.inRound l (callsIn_wide.2 (bld_WriteString w.heap.size (w.heap.size + 1) _ _ w2 (builder_below (builder_below tB hb1) hb2) (by rw [Lib.byteCells_length]; have := pieces_len l0.length pre; have := HL.out; rw [ByteArray.size_append]; have e1 : (⟨(Lib.repeatL [48] (4 - (Lib.itoa x.1.2).length)).toArray⟩ : ByteArray).size = (Lib.repeatL [48] (4 - (Lib.itoa x.1.2).length)).length := rfl; have e2 : (⟨(Lib.itoa x.1.2).toArray⟩ : ByteArray).size = (Lib.itoa x.1.2).length := rfl; rw [e1, e2, hrl]; simp only [List.length_cons, List.length_nil]; omega) (by have := tb.size; have := hb1.size; have := hb2.size; omega)))).mono ?_
        rintro e w3 ⟨rfl, hB3, hb3, hk3⟩
        gi_wp2
        exact text_round rfl tB t1 t0 tb (hb1.trans (hb2.mono hb1.size)) hB3 hb3 hk3 (by unfold piece; rw [if_pos hlt2]; simp)
      · have hd : decide (x.1.1 < (l0.length : Int) - 1) = false := decide_eq_false hlt2
        gi_wp2
        refine ⟨trivial, ?_⟩
        refine (CallsIn.inRound l (callsIn_wide.2 (bld_WriteString w.heap.size (w.heap.size + 1) _ _ w1 (builder_below tB hb1) (by rw [Lib.byteCells_length]; have := pieces_len l0.length pre; have := HL.out; have e2 : (⟨(Lib.itoa x.1.2).toArray⟩ : ByteArray).size = (Lib.itoa x.1.2).length := rfl; rw [e2]; omega) (by have := tb.size; have := hb1.size; omega)))).mono ?_
        rintro e w3 ⟨rfl, hB3, hb3, hk3⟩
        gi_wp2
        exact text_round rfl tB t1 t0 tb hb1 hB3 hb3 hk3 (by unfold piece; rw [if_neg (by omega)])
    case done =>
      rintro D ys W hD rfl ⟨⟨⟨tB, t1⟩, t0⟩, tb⟩ hK
      gi_wp2_with (refine ⟨trivial, ?_⟩; gi_at_call 129; refine (callsIn_wide.2 (Tryz.Builder_String_any_k w.heap.size (w.heap.size + 1) _ _ tB (by have := tb.size; omega))).mono ?_; rintro e w7 ⟨rfl, hb7, hb8, hok⟩)
      have hK7 := hok D _ hK (fun e' => by cases e'; obtain h | h := tB <;> (obtain ⟨_, v, hbk, _⟩ := h; rw [hK] at hbk; cases hbk)) (fun _ _ h => by cases h)
      refine ⟨by simp, .inl ⟨_, _, rfl, run_takeDeferred hK7, ?_⟩⟩
      refine ⟨_, results_tmp rfl _ _ _, ?_, (tb.trans hb8).trans (belowK_b (w := w) (Nat.le_refl _) w7 D _ _ (by omega) hK7 rfl rfl)⟩
      rw [← e0]
      rfl
    case stop =>
      rintro D c pre W _ _ h _
      exact h.elim
end Go.Proofs.YthpgglegdhjihaaGreatDoor.Q
end

section
/-! Rf: limbs.text keeps its contract. -/
set_option autoImplicit false
namespace Go.Proofs.YthpgglegdhjihaaGreatDoor.R
open Go.Rf
section
open Go.Proofs.YthpgglegdhjihaaGreatDoor.Q Go.Proofs.YthpgglegdhjihaaGreatDoorW.PrintWords
theorem text_parts (zs : List Int) : ∀ m, m ≤ zs.length → ((Q.upto (Q.bwI zs) m).flatMap (Q.piece (zs.length : Int))) = figs (zs.drop (zs.length - m)) := by
  intro m
  induction m with
  | zero =>
    intro _
    rw [Nat.sub_zero, List.drop_length]
    rfl
  | succ m ih =>
    intro hm
    obtain ⟨j, hj⟩ : ∃ j, j = zs.length - (m + 1) := ⟨_, rfl⟩
    have hj1 : zs.length - m = j + 1 := by omega
    have hjl : j < zs.length := by omega
    have e1 : Q.upto (Q.bwI zs) (m + 1) = Q.upto (Q.bwI zs) m ++ [Q.bwI zs m] := by
      unfold Q.upto
      rw [List.range_succ, List.map_append]
      rfl
    have e2 : Q.bwI zs m = ((j : Int), zs.getD j 0) := by
      unfold Q.bwI
      have : (zs.length : Int) - 1 - (m : Int) = (j : Int) := by omega
      rw [this]
      rfl
    rw [e1, List.flatMap_append, ih (by omega), List.flatMap_singleton, e2, hj1, ← hj]
    unfold Q.piece
    by_cases h : j + 1 < zs.length
    · rw [if_pos (show ((j : Int), zs.getD j 0).1 < (zs.length : Int) - 1 by show (j : Int) < _; omega), figs_drop h]
      rfl
    · have hl : zs.length = j + 1 := by omega
      rw [if_neg (show ¬ ((j : Int), zs.getD j 0).1 < (zs.length : Int) - 1 by show ¬ (j : Int) < _; omega), figs_last hl, List.drop_eq_nil_of_le (by omega)]
      rfl
theorem textF_eq (l : List Int) : (⟨(Q.textF l).toArray⟩ : ByteArray) = textL l := by
  unfold Q.textF
  cases l with
  | nil => rfl
  | cons d l =>
    rw [if_neg (by simp)]
    have := text_parts (d :: l) (d :: l).length (Nat.le_refl _)
    rw [Nat.sub_self, List.drop_zero] at this
    exact congrArg (fun x : List UInt8 => (⟨x.toArray⟩ : ByteArray)) this
theorem reps_ints {w : World} {Z : Nat → Prop} : ∀ {l : List Int} {vs : List Value}, reps (rep w Z (.int .i64)) l vs → vs = l.map (Value.int .i64)
  | [], vs, h => h
  | x :: l, vs, h => by
    obtain ⟨c, d, rfl, h1, h2⟩ := h
    rw [reps_ints h2, show c = [.int .i64 x] from h1]
    rfl
theorem reads_of {w : World} {Z : Nat → Prop} {l : List Int} {v : Value} (h : rep w Z (.sl (.int .i64)) l [v]) (hl : l.length ≤ 1000000) : ∃ A c, v = .slice A l.length c ∧ l.length ≤ c ∧ Kd.C (Kd.int .i64) w A l.length l := by
  obtain ⟨A, c, vs, h1, h2, h3, h4⟩ := h
  obtain rfl := reps_ints h3
  refine ⟨A, c, (List.cons.inj h1).1, h2, rfl, by omega, fun h0 => ?_⟩
  have at' : ∀ j p, l[j]? = some p → ∃ a : Addr, A = some a ∧ w.cell? (a.add j) = some (.int .i64 p) := fun j p hp => by
    obtain ⟨a, ha, _, _, hc⟩ := h4 j (.int .i64 p) (by rw [List.getElem?_map, hp]; rfl)
    exact ⟨a, ha, hc⟩
  obtain ⟨a, ha, _⟩ := at' 0 l[0] (List.getElem?_eq_getElem h0)
  refine ⟨a, ha, fun j p hp => ⟨[.int .i64 p], rfl, rfl, fun i u hu => ?_⟩⟩
  obtain ⟨a', ha', hc⟩ := at' j p hp
  obtain rfl := Option.some.inj (ha.symm.trans ha')
  cases i with
  | zero =>
    obtain rfl := Option.some.inj hu
    have : j * 1 + 0 = j := by omega
    show w.cell? (a.add (j * 1 + 0)) = _
    rw [this]
    exact hc
  | succ i => simp at hu
end
theorem gPow : Tryz.prog.globalNamed "internal/strconv.uint64pow10" = some powG := by kernel_rfl
theorem laid_of {w : World} {Z : Nat → Prop} (h : GL cx w Z) : Q.Laid w := by
  obtain ⟨_, t, fz, hh⟩ := h.2 powG powCells (by show objsR powG = _; unfold objsR; simp)
  unfold Q.Laid Lib.TabIs World.var?
  rw [gPow, Option.bind_some, hh]
  rfl
theorem text_contract (inp : (cx.spec 107).In) (out : (cx.spec 107).Out) (h : textR inp = some out) : Contract cx 107 inp out := by
  obtain ⟨l, _⟩ := inp
  unfold textR at h
  split at h
  · rename_i hok
    obtain rfl := Option.some.inj h
    unfold limbsOk at hok
    simp only [Bool.and_eq_true, List.all_eq_true, decide_eq_true_eq] at hok
    intro w Z args fp hrep _ _ hZ hGL
    match args, hrep with
    | [v], ⟨f, g, hfp, ⟨hv, hf⟩, hg⟩ =>
      obtain rfl : f = [] := hf
      obtain rfl : g = [] := hg
      obtain rfl : fp = [] := hfp
      obtain ⟨A, c, rfl, hc, hK⟩ := reads_of hv hok.2
      refine (Q.impl_text.calls A c l w (laid_of hGL) hK hc hok.1 hok.2).mono ?_
      rintro e w' ⟨rfl, hb⟩
      rw [textF_eq]
      refine ⟨[.string (textL l)], Z, [], [], rfl, ⟨[], [], rfl, ⟨rfl, rfl⟩, rfl⟩, ⟨[], [], rfl, rfl, rfl⟩, by simp, (fun b hb => by cases hb), (fun b hb => hb), fun b hz => ⟨Nat.lt_of_lt_of_le (hZ b hz) hb.size, .inl hz⟩, ⟨hb.os, hb.tape, hb.output, hb.size, fun b hlt _ => hb.block b hlt, fun b o ho _ => (hb.block b (Array.getElem?_eq_some_iff.1 ho).1).trans ho⟩⟩
  · cases h
theorem compare_contract (inp : (cx.spec 71).In) (out : (cx.spec 71).Out) (h : compareR inp = some out) : Contract cx 71 inp out := by
  obtain ⟨a, b, _⟩ := inp
  obtain rfl := Option.some.inj h
  intro w Z args fp hrep _ _ hZ hGL
  match args, hrep with
  | [v1, v2], ⟨f, g, hfp, ⟨hv, hf⟩, ⟨f2, g2, hg2, ⟨hv2, hf2⟩, hg⟩⟩ =>
    obtain rfl : f = [] := hf
    obtain rfl : f2 = [] := hf2
    obtain rfl : g2 = [] := hg
    obtain rfl : g = [] := hg2
    obtain rfl : fp = [] := hfp
    have e1 : v1 = .string a := (List.cons.inj (show [v1] = [Value.string a] from hv)).1
    have e2 : v2 = .string b := (List.cons.inj (show [v2] = [Value.string b] from hv2)).1
    subst e1
    subst e2
    refine (Tryz.strings_Compare a b w).mono ?_
    rintro e w' ⟨rfl, rfl⟩
    refine ⟨[.int .i64 (Lib.compareBytes a.data.toList b.data.toList)], Z, [], [], rfl, ⟨[], [], rfl, ⟨rfl, rfl⟩, rfl⟩, ⟨[], [], rfl, rfl, ⟨[], [], rfl, rfl, rfl⟩⟩, by simp, (fun b hb => by cases hb), (fun b hb => hb), fun b hz => ⟨hZ b hz, .inl hz⟩, ⟨rfl, rfl, rfl, Nat.le_refl _, fun b hlt _ => rfl, fun b o ho _ => ho⟩⟩
theorem told (k f : Nat) (inp : (cx.spec f).In) (out : (cx.spec f).Out) (h : callF cx k f inp = some out) : Go.Rf.Contract cx f inp out := (Go.Rf.run_ok good (fun f g inp out h h2 => by
  have h : extR f = some g := h
  by_cases e : f = 107
  · subst e
    obtain rfl := Option.some.inj h
    exact text_contract inp out h2
  · by_cases e2 : f = 71
    · subst e2
      obtain rfl := Option.some.inj h
      exact compare_contract inp out h2
    · exfalso
      unfold extR at h
      split at h
      · exact e rfl
      · exact e2 rfl
      · cases h) k).1 f inp out h
end Go.Proofs.YthpgglegdhjihaaGreatDoor.R
end

section
/-! Rf: the row of a law, out of its pure statement. -/
set_option autoImplicit false
namespace Go.Proofs.YthpgglegdhjihaaGreatDoor.fnValueCmp
open Go.Rf Go.Proofs.YthpgglegdhjihaaGreatDoor.R Go.ChangeShapes Go.WideShapes Go.ChangeAt Go.RowKit
set_option linter.unusedVariables false
theorem walk (P : PureFnValueCmp) (w : World) (hGL : GL cx w (Here w)) (v0 : Value) (y0 : (vSh ⟨false, [.sl (.int .u8)], [], 24⟩).D) (h0 : ShRep w (Here w) (vSh ⟨false, [.sl (.int .u8)], [], 24⟩) y0 v0 []) (w0 : shWf (vSh ⟨false, [.sl (.int .u8)], [], 24⟩) y0) :
    Calls Tryz.prog 6 #[v0] w fun e w' => e = .returned (.bool true) ∧ Below w.heap.size w w' := by
  obtain ⟨k, p, h⟩ := P y0 w0
  have h' : callF cx k 6 (y0, ()) = some ((true, ()), p) := h
  have hr : ShsRep w (Here w) (cx.spec 6).ps (y0, ()) [v0] [] := ⟨[], [], rfl, h0, rfl⟩
  exact law_calls (told k 6 _ _ h') hr hGL (fun w' Z vs fp h => res_bool h)
theorem own : ownKnob Tryz.prog.godebug = none := by kernel_rfl
theorem laidOut : laidOutB Tryz.prog = true := by kernel_rfl
/-- what the row lists -/
def laidL : List (String × DataW Unit) := [("math/bits.deBruijn32tab", Rows.laid_math_bits_deBruijn32tab), ("math/bits.deBruijn64tab", Rows.laid_math_bits_deBruijn64tab), ("internal/strconv.uint64pow10", Rows.laid_internal_strconv_uint64pow10)]
theorem pow_data : (Rows.laid_internal_strconv_uint64pow10 : DataW Unit) = Lib.tabData .u64 Lib.pow10Tab := by kernel_rfl
theorem gl_of {W : World} (h : laidMetH Tryz.prog laidL W) : GL cx W (Here W) := by
  unfold laidL at h
  rw [MakeChecks.laidMetH_plain _ _ _ (by kernel_rfl), pow_data] at h
  have ht := Lib.tabIs_of_head (n := 20) (t := 168) (e := 157) gPow (by kernel_rfl) (by kernel_rfl) (by kernel_rfl) (by kernel_rfl) (by kernel_rfl) (laidMet.tail (laidMet.tail h))
  unfold Lib.TabIs World.var? at ht
  rw [gPow, Option.bind_some] at ht
  refine ⟨(fun _ _ h => by cases h), fun g cs hg => ?_⟩
  have hg : objsR g = some cs := hg
  unfold objsR at hg
  split at hg
  · rename_i e
    subst e
    obtain rfl := Option.some.inj hg
    split at ht
    · rename_i cs t fz hh
      obtain rfl := Option.some.inj ht
      exact ⟨(Array.getElem?_eq_some_iff.1 hh).1, _, _, hh⟩
    · cases ht
  · cases hg
theorem door_met (os : Os) (args : Array Value) : laidMetH Tryz.prog laidL ((World.doorLaid Tryz.prog 400 os).forCall (fun _ _ => 0) ⟨#[], args, []⟩).memory :=
  laidMetH_of_parts3 (fuel := 8) (laidMet_of_run' 8 (by kernel_rfl) (by kernel_rfl)) (by kernel_rfl) (by kernel_rfl)
set_option maxRecDepth 100000 in
theorem lifted (P : PureFnValueCmp) (os : Os) (started : os.Started) (H : Type) (enc : TypeId × Value → H) :
    ReturnsInHanded {} Tryz.checked os 6 .any (fun w args => (Rows.fnValueCmpSpec.pre enc Tryz.prog Tryz.f6 [] false w args ∧ laidMetH Tryz.prog laidL w) ∧ sizedMet enc Tryz.prog Tryz.f6 (OpenSpec.ofChange Rows.fnValueCmpSpec) false w args)
      (Rows.fnValueCmpSpec.post enc Tryz.prog Tryz.f6 false true false false) := by
  refine returnsInHanded_of_change_and (C := Tryz.checked) (X := fun w _ => laidMetH Tryz.prog laidL w) (fun _ _ _ hh h => h.of_heap hh) own started (by kernel_rfl) Tryz.func6
    (ChangeSpec.witness_shaped (enc := enc) (C := Tryz.checked) (os := os) (X := fun w _ => laidMetH Tryz.prog laidL w) false (World.doorLaid Tryz.prog 400 os) #[.slice none 0 0] 12 rfl (World.shaped_of_RefB (by kernel_rfl) (by kernel_rfl)) (by kernel_rfl) (by kernel_rfl) (by kernel_rfl) (door_met os _)) ?_
  intro W base args ds gs before hval0 hW _ _ hL _
  have hGL := gl_of hL
  have hval : ∀ (j : Nat) t v, Tryz.f6.params[j]? = some t → args[j]? = some v → Value.okWide Tryz.prog W .any base t v := hval0
  have hW' := hW
  obtain ⟨p, q, hA0, hV, rfl, hfz, hnd⟩ := hW
  have hA : DataW.TrodAll enc Tryz.prog W 0 (fun _ => true) true Tryz.f6.params.toList args.toList ds p := hA0
  rw [Tryz.params6] at hA hval
  obtain ⟨v0, vs0, d0, ds0, p0, q0, hargs, rfl, rfl, h0, r0⟩ := trodAll_cons hA
  obtain ⟨rfl, rfl, rfl⟩ := trodAll_nil r0
  obtain rfl : args = #[v0] := by cases args; simp_all
  obtain ⟨rfl, rfl⟩ := trodVars_none hV
  have k0 := h0
  have lt0 : ∀ x ∈ p0, x.block < W.heap.size := by obtain ⟨m, hm⟩ := k0; exact DataW.trod_lt m _ _ _ hm
  obtain ⟨y0, hy0, w0⟩ := opnArg_ok (tab := tabs.ty) (P := Tryz.prog) (t := 56) (i := ⟨false, [.sl (.int .u8)], [], 24⟩) (by kernel_rfl) (hval 0 56 v0 rfl rfl) h0
  clear hA0 hval0
  refine (walk P W hGL v0 y0 hy0 w0).mono fun e W' ⟨he, bel⟩ => ?_
  subst he
  exact ⟨_, rfl, _, _, _, [], _, [], hW', trodAll_mk1 (shut_bool Tryz.underlying4 _), (trodAll_cons_mk (Below.trod laidOut (by kernel_rfl) (of_decide_eq_true (by kernel_rfl)) k0 bel lt0) trodAll_mk0), rfl, bel.frame _, fun h => by cases h⟩
theorem over (P : PureFnValueCmp) : Rows.fnValueCmpRow.holds Tryz.pinned (OpenSpec.ofChange Rows.fnValueCmpSpec) :=
  OpenClaim.holds_of_wide 6 Tryz.f6 rfl rfl rfl rfl rfl rfl rfl ⟨rfl, rfl, rfl, rfl, rfl⟩ rfl rfl rfl rfl rfl (by kernel_rfl) Tryz.func6 (by kernel_rfl)
    (of_decide_eq_true (by kernel_rfl)) (by unfold Func.isWrapper; first | (rw [if_pos (by decide +kernel)]; kernel_rfl) | (rw [if_neg (by decide +kernel)]; exact ⟨rfl, rfl⟩))
    (fun os started H enc _ => lifted P os started H enc)
/-- THE TIED CARD. -/
theorem card (P : PureFnValueCmp) : Rows.FnValueCmpCardSaid :=
  Claim7.holds_tied_plain_at .later [] [.data, .data, .data] true (true, "7400113e69f128e2cef78f5abaff5e0662cffd7be712a6846863a3b5d93e192b") false
    (over P) (fun _ h => by cases h) (by kernel_rfl) (fun _ h => by cases h) fnValueCmp_row_tie rfl ⟨rfl, rfl⟩ (by kernel_rfl) rfl
    (fun f fn hf hfn => by
      obtain rfl : f = 6 := Option.some.inj ((show Tryz.prog.funcNamed "loop.example/jetton/laws.FnValueCmp" = some 6 by kernel_rfl).symm.trans hf) |>.symm
      obtain rfl : fn = Tryz.f6 := (Option.some.inj (Tryz.func6.symm.trans hfn)).symm
      exact ⟨by kernel_rfl, fun j t ht => by
        rw [Tryz.params6] at ht
        have hm : t ∈ [56] := by simpa using Array.mem_of_getElem? ht
        have hall : ([56].all fun u => !Tryz.prog.wantsStandIn u) = true := by kernel_rfl
        exact (show Tryz.prog.wantsStandIn t = false by simpa using List.all_eq_true.1 hall t hm)⟩)
    (by kernel_rfl)
end Go.Proofs.YthpgglegdhjihaaGreatDoor.fnValueCmp
end

section
/-! Rf, limbs: noughts at the end; which is greater. -/
set_option autoImplicit false
namespace Go.Proofs.YthpgglegdhjihaaGreatDoor.R
open Go.Rf

theorem trimL : ∀ (n : Nat) (l : List Int), l.length = n → n ≤ 1000000 → InR l → Ev (fun k => F134c1 k l) ((digs (VI l).toNat, ()), ((), ())) := by
  intro n
  induction n with
  | zero =>
    intro l hl _ _
    obtain rfl := List.eq_nil_of_length_eq_zero hl
    refine Ev.step 1 (fun k => F134c1_eq k _) ?_
    simp only [List.length_nil, Int.ofNat_zero, gt_iff_lt, Int.lt_irrefl, decide_false, Bool.false_eq_true, if_false, VI, Int.toNat_zero, digs_zero]
    exact Ev.now _
  | succ n ih =>
    intro l hl hn hr
    have hlt : n < l.length := by omega
    refine Ev.step 1 (fun k => F134c1_eq k _) ?_
    simp only [gt_true (show 0 < l.length by omega), pred_len hl (by omega), ge0, if_true, Int.toNat_natCast, getI_of hlt, Option.bind_some, le_true (show n ≤ l.length by omega), Bool.and_self, slices0]
    cases h0 : (l.getD n 0 == 0) with
    | true =>
      have h0 : l.getD n 0 = 0 := by simpa using h0
      have hv : VI (l.take n) = VI l := VI_take_zero (fun i h1 h2 => by
        have : i = n := by omega
        rw [this, h0])
      have := ih (l.take n) (by rw [List.length_take]; omega) (by omega) (hr.take n)
      rw [hv] at this
      simpa only [if_true] using this
    | false =>
      have h0 : l.getD n 0 ≠ 0 := by simpa using h0
      rw [digs_VI hr (.inr (by rw [hl]; exact h0))]
      simp only [Bool.false_eq_true, if_false]
      exact Ev.now _
theorem trim_ev {l : List Int} (hr : InR l) (hl : l.length ≤ 1000000) : Ev (fun k => F134 k l) ((digs (VI l).toNat, ()), ((), ())) := Ev.step 2 (fun k => F134_eq k l) (trimL l.length l rfl hl hr)
theorem l1Trim_ev {l : List Int} (hr : InR l) (hl : l.length ≤ 1000000) : Ev (fun k => F133 k l) ((digs (VI l).toNat, ()), ((), ())) := by
  have key : ∀ n, n ≤ l.length → (∀ i, n ≤ i → i < l.length → l.getD i 0 = 0) → Ev (fun k => F133c2 k l (n : Int)) ((digs (VI l).toNat, ()), ((), ())) := by
    intro n
    induction n with
    | zero =>
      intro _ h0
      have hs := trim_upto (Nat.zero_le _) h0 (.inl rfl) hr
      refine Ev.step 1 (fun k => F133c2_eq k _ _) ?_
      have hc : decide (([] : List Int).length + (digs (VI l).toNat).length ≤ 17592186044416) = true := by rw [← hs]; simp
      have h1 : decide (((0 : Nat) : Int) > 0) = false := by decide
      simp only [h1, ge0, le_true (Nat.zero_le l.length), Bool.and_self, Bool.false_eq_true, if_false, if_true, Int.toNat_natCast, slices0, hc, List.nil_append, hs]
      exact Ev.now _
    | succ n ih =>
      intro hn h0
      have hlt : n < l.length := by omega
      have h1 : decide (((n + 1 : Nat) : Int) > 0) = true := decide_eq_true (by omega)
      have h2 : IntKind.i64.wrap (((n + 1 : Nat) : Int) - 1) = (n : Int) := by rw [wrap64 (by omega) (by omega)]; omega
      refine Ev.step 1 (fun k => F133c2_eq k _ _) ?_
      simp only [h1, h2, ge0, if_true, Int.toNat_natCast, getI_of hlt, Option.bind_some]
      cases hz : (l.getD n 0 == 0) with
      | true =>
        simp only [if_true]
        refine ih (by omega) fun i h3 h4 => ?_
        rcases Nat.eq_or_lt_of_le h3 with rfl | h5
        · simpa using hz
        · exact h0 i h5 h4
      | false =>
        have hz : l.getD n 0 ≠ 0 := by simpa using hz
        have hs := trim_upto hn h0 (.inr (by simpa using hz)) hr
        have hc : decide (([] : List Int).length + (digs (VI l).toNat).length ≤ 17592186044416) = true := by rw [← hs]; simp; omega
        simp only [Bool.false_eq_true, if_false, le_true hn, Bool.and_self, if_true, slices0, hc, List.nil_append, hs]
        exact Ev.now _
  exact Ev.step 2 (fun k => F133_eq k l) (key l.length (Nat.le_refl _) (fun i h1 h2 => by omega))
theorem digs_len_le {n : Nat} {m : Nat} (h : n < 10000 ^ m) : (digs n).length ≤ m := by
  induction m generalizing n with
  | zero =>
    have : n = 0 := by simp at h; omega
    rw [this, digs_zero]
    simp
  | succ m ih =>
    by_cases h0 : n = 0
    · rw [h0, digs_zero]
      simp
    · rw [digs_pos h0, List.length_cons]
      have := ih (n := n / 10000) (by rw [Nat.pow_succ] at h; omega)
      omega
section
variable {a b : List Int} {A B : Nat}
theorem l1CmpAbs_ev (ha : InR a) (hb : InR b) (ta : Trim a) (tb : Trim b) (hA : VI a = (A : Int)) (hB : VI b = (B : Int)) (la : a.length ≤ 1000000) : Ev (fun k => F111 k a b) ((cmpI A B, ()), ((), (), ())) := by
  refine Ev.step 2 (fun k => F111_eq k a b) ?_
  by_cases hl : a.length = b.length
  · have h0 : ((a.length : Int) != (b.length : Int)) = false := by simp [hl]
    simp only [h0, Bool.false_eq_true, if_false]
    have key : ∀ m, m ≤ a.length → (∀ j, m ≤ j → j < a.length → a.getD j 0 = b.getD j 0) → Ev (fun k => F111c6 k a b ((m : Int) - 1)) ((cmpI A B, ()), ((), (), ())) := by
      intro m
      induction m with
      | zero =>
        intro _ h
        have := ext_getD hl (fun j hj => h j (by omega) hj)
        have hAB : A = B := by rw [this, hB] at hA; omega
        rw [hAB, cmpI_eq]
        exact Ev.step 1 (fun k => F111c6_eq k _ _ _) (Ev.now _)
      | succ m ih =>
        intro hm h
        have e : ((m + 1 : Nat) : Int) - 1 = (m : Int) := by omega
        have hma : m < a.length := by omega
        have hmb : m < b.length := by omega
        have hge : decide ((m : Int) ≥ 0) = true := by simp
        have r1 := ha.at hma
        have r2 := hb.at hmb
        rw [e]
        refine Ev.step 1 (fun k => F111c6_eq k _ _ _) ?_
        simp only [hge, if_true, Int.toNat_natCast, getI_of hma, getI_of hmb, Option.bind_some]
        rcases Int.lt_trichotomy (a.getD m 0) (b.getD m 0) with hlt | heq | hgt
        · have := VI_first_lt hl hma (fun j h1 h2 => h j h1 h2) hlt ha hb
          rw [cmpI_lt (by omega)]
          simp only [hlt, decide_true, if_true]
          exact Ev.now _
        · have n1 : ¬ a.getD m 0 < b.getD m 0 := by omega
          have n2 : ¬ a.getD m 0 > b.getD m 0 := by omega
          simp only [n1, n2, decide_false, Bool.false_eq_true, if_false]
          rw [wrap64 (by omega) (by omega)]
          refine ih (by omega) fun j h1 h2 => ?_
          rcases Nat.eq_or_lt_of_le h1 with rfl | h3
          · exact heq
          · exact h j h3 h2
        · have := VI_first_lt hl.symm hmb (fun j h1 h2 => (h j h1 (by omega)).symm) hgt hb ha
          rw [cmpI_gt (by omega)]
          have n1 : ¬ a.getD m 0 < b.getD m 0 := by omega
          have n2 : a.getD m 0 > b.getD m 0 := by omega
          simp only [n1, n2, decide_false, decide_true, Bool.false_eq_true, if_false, if_true]
          exact Ev.now _
    rw [wrap64 (by omega) (by omega)]
    exact key a.length (Nat.le_refl _) (fun j h1 h2 => by omega)
  · have h0 : ((a.length : Int) != (b.length : Int)) = true := by simp; omega
    simp only [h0, if_true]
    rcases Nat.lt_or_ge a.length b.length with h1 | h1
    · have := VI_len_lt ha hb tb h1
      rw [cmpI_lt (by omega)]
      simp only [lt_true h1, if_true]
      exact Ev.now _
    · have := VI_len_lt hb ha ta (by omega)
      rw [cmpI_gt (by omega)]
      simp only [lt_false h1, Bool.false_eq_true, if_false]
      exact Ev.now _
theorem clamp_neg {D : Int} (h : D < 0) : (if (if D < 1 then D else 1) > -1 then (if D < 1 then D else 1) else -1) = -1 := by
  rw [if_pos (show D < 1 by omega), if_neg (by omega)]
theorem clamp_pos {D : Int} (h : 0 < D) : (if (if D < 1 then D else 1) > -1 then (if D < 1 then D else 1) else -1) = 1 := by
  rw [if_neg (show ¬ D < 1 by omega), if_pos (by omega)]
theorem cmp_ev (ha : InR a) (hb : InR b) (ta : Trim a) (tb : Trim b) (hA : VI a = (A : Int)) (hB : VI b = (B : Int)) (la : a.length ≤ 1000000) (lb : b.length ≤ 1000000) : Ev (fun k => F116 k a b) ((cmpI A B, ()), ((), (), ())) := by
  refine Ev.step 2 (fun k => F116_eq k a b) ?_
  by_cases hl : a.length = b.length
  · have h0 : ((a.length : Int) != (b.length : Int)) = false := by simp [hl]
    simp only [h0, Bool.false_eq_true, if_false]
    have key : ∀ m, m ≤ a.length → (∀ j, m ≤ j → j < a.length → a.getD j 0 = b.getD j 0) → Ev (fun k => F116c4 k a b ((m : Int) - 1)) ((cmpI A B, ()), ((), (), ())) := by
      intro m
      induction m with
      | zero =>
        intro _ h
        have := ext_getD hl (fun j hj => h j (by omega) hj)
        have hAB : A = B := by rw [this, hB] at hA; omega
        rw [hAB, cmpI_eq]
        exact Ev.step 1 (fun k => F116c4_eq k _ _ _) (Ev.now _)
      | succ m ih =>
        intro hm h
        have e : ((m + 1 : Nat) : Int) - 1 = (m : Int) := by omega
        have hma : m < a.length := by omega
        have hmb : m < b.length := by omega
        have hge : decide ((m : Int) ≥ 0) = true := by simp
        have r1 := ha.at hma
        have r2 := hb.at hmb
        rw [e]
        refine Ev.step 1 (fun k => F116c4_eq k _ _ _) ?_
        simp only [hge, if_true, Int.toNat_natCast, getI_of hma, getI_of hmb, Option.bind_some]
        rcases Int.lt_trichotomy (a.getD m 0) (b.getD m 0) with hlt | heq | hgt
        · have := VI_first_lt hl hma (fun j h1 h2 => h j h1 h2) hlt ha hb
          have hne : (a.getD m 0 != b.getD m 0) = true := bne_iff_ne.2 (by omega)
          rw [cmpI_lt (by omega), wrap64 (n := a.getD m 0 - b.getD m 0) (by omega) (by omega)]
          simp only [hne, if_true, clamp_neg (show a.getD m 0 - b.getD m 0 < 0 by omega)]
          exact Ev.now _
        · have hne : (a.getD m 0 != b.getD m 0) = false := by rw [heq, bne_self_eq_false]
          simp only [hne, Bool.false_eq_true, if_false]
          rw [wrap64 (by omega) (by omega)]
          refine ih (by omega) fun j h1 h2 => ?_
          rcases Nat.eq_or_lt_of_le h1 with rfl | h3
          · exact heq
          · exact h j h3 h2
        · have := VI_first_lt hl.symm hmb (fun j h1 h2 => (h j h1 (by omega)).symm) hgt hb ha
          have hne : (a.getD m 0 != b.getD m 0) = true := bne_iff_ne.2 (by omega)
          rw [cmpI_gt (by omega), wrap64 (n := a.getD m 0 - b.getD m 0) (by omega) (by omega)]
          simp only [hne, if_true, clamp_pos (show 0 < a.getD m 0 - b.getD m 0 by omega)]
          exact Ev.now _
    rw [wrap64 (by omega) (by omega)]
    exact key a.length (Nat.le_refl _) (fun j h1 h2 => by omega)
  · have h0 : ((a.length : Int) != (b.length : Int)) = true := by simp; omega
    simp only [h0, if_true]
    rw [wrap64 (n := (a.length : Int) - b.length) (by omega) (by omega)]
    rcases Nat.lt_or_ge a.length b.length with h1 | h1
    · have := VI_len_lt ha hb tb h1
      rw [cmpI_lt (by omega), clamp_neg (by omega)]
      exact Ev.now _
    · have := VI_len_lt hb ha ta (by omega)
      rw [cmpI_gt (by omega), clamp_pos (by omega)]
      exact Ev.now _
end
end Go.Proofs.YthpgglegdhjihaaGreatDoor.R
end

section
/-! Rf, limbs: sums and differences. -/
set_option autoImplicit false
namespace Go.Proofs.YthpgglegdhjihaaGreatDoor.R
open Go.Rf
section
variable {a b : List Int} {A B : Nat}
/-- the carry runs up -/
theorem addC {M : Nat} (hM : M ≤ 200001) {S : Int} : ∀ (m i : Nat) (x : List Int), i + m = M → x.length = M + 1 → VI x = S → (∀ j, j < i → 0 ≤ x.getD j 0 ∧ x.getD j 0 ≤ 9999) → (∀ j, i < j → j < M → 0 ≤ x.getD j 0 ∧ x.getD j 0 ≤ 19998) →
    (0 ≤ x.getD i 0 ∧ x.getD i 0 ≤ 19999) → (i < M → x.getD M 0 = 0) → (i = M → x.getD M 0 ≤ 1) → Ev (fun k => F115c9 k x (M : Int) (i : Int)) ((digs S.toNat, ()), ((), (), ())) := by
  intro m
  induction m with
  | zero =>
    intro i x hi hx hS h1 h2 h3 h4 h5
    have hiM : i = M := by omega
    subst hiM
    refine Ev.step 1 (fun k => F115c9_eq k _ _ _) ?_
    simp only [lt_false (Nat.le_refl i), Bool.false_eq_true, if_false]
    have hr : InR x := InR.of fun j hj => by
      rcases Nat.eq_or_lt_of_le (show j ≤ i by omega) with rfl | h6
      · have := h5 rfl
        omega
      · exact h1 j h6
    have := trim_ev hr (by omega)
    rw [hS] at this
    exact Ev.bind this (Ev.now _)
  | succ m ih =>
    intro i x hi hx hS h1 h2 h3 h4 _
    have hiM : i < M := by omega
    have l0 : i < x.length := by omega
    have l1 : i + 1 < x.length := by omega
    have r1 : 0 ≤ x.getD (i + 1) 0 ∧ x.getD (i + 1) 0 ≤ 19998 := by
      rcases Nat.eq_or_lt_of_le (show i + 1 ≤ M by omega) with h6 | h6
      · rw [h6, h4 hiM]
        omega
      · exact h2 (i + 1) (by omega) h6
    have hq : 0 ≤ x.getD i 0 / 10000 ∧ x.getD i 0 / 10000 ≤ 1 := by omega
    have hset : i < (x.set (i + 1) (x.getD (i + 1) 0 + x.getD i 0 / 10000)).length := by rw [List.length_set]; omega
    have hget : (x.set (i + 1) (x.getD (i + 1) 0 + x.getD i 0 / 10000)).getD i 0 = x.getD i 0 := by rw [getI_set l1, if_neg (by omega)]
    have hS' : VI ((x.set (i + 1) (x.getD (i + 1) 0 + x.getD i 0 / 10000)).set i (x.getD i 0 % 10000)) = S := by
      rw [VI_carry l1 rfl (by omega), hS]
    have hgets : ∀ j, ((x.set (i + 1) (x.getD (i + 1) 0 + x.getD i 0 / 10000)).set i (x.getD i 0 % 10000)).getD j 0 = if j = i then x.getD i 0 % 10000 else if j = i + 1 then x.getD (i + 1) 0 + x.getD i 0 / 10000 else x.getD j 0 := fun j => getI_set2 l1
    refine Ev.step 1 (fun k => F115c9_eq k _ _ _) ?_
    have w1 : IntKind.i64.wrap (x.getD i 0 / 10000) = x.getD i 0 / 10000 := wrap64 (by omega) (by omega)
    have w2 : IntKind.i64.wrap (x.getD (i + 1) 0 + x.getD i 0 / 10000) = x.getD (i + 1) 0 + x.getD i 0 / 10000 := wrap64 (by omega) (by omega)
    simp only [lt_true hiM, wrap_succ (show i < 9223372036854775807 by omega), ge0, lt_true l1, lt_true l0, Bool.and_self, if_true, Int.toNat_natCast, getI_of l1, getI_of l0, Option.bind_some, tdiv_pos h3.1, w1, w2, lt_true hset, getI_of hset, hget, tmod_pos h3.1]
    refine ih (i + 1) _ (by omega) (by simpa using hx) hS' (fun j hj => ?_) (fun j hj hj2 => ?_) ?_ (fun hj => ?_) (fun hj => ?_)
    · rw [hgets]
      split
      · omega
      · rw [if_neg (by omega)]
        exact h1 j (by omega)
    · rw [hgets, if_neg (by omega), if_neg (by omega)]
      exact h2 j (by omega) hj2
    · rw [hgets, if_neg (by omega), if_pos rfl]
      omega
    · rw [hgets, if_neg (by omega), if_neg (by omega)]
      exact h4 hiM
    · rw [hgets, if_neg (by omega), if_pos hj.symm]
      have : x.getD (i + 1) 0 = 0 := by rw [hj]; exact h4 hiM
      omega
theorem add_ev (ha : InR a) (hb : InR b) (la : a.length ≤ 100000) (lb : b.length ≤ 100000) : Ev (fun k => F115 k a b) ((digs (VI a + VI b).toNat, ()), ((), (), ())) := by
  obtain ⟨M, hM⟩ : ∃ M, M = max a.length b.length := ⟨_, rfl⟩
  have h1 : (if (b.length : Int) > (a.length : Int) then (b.length : Int) else (a.length : Int)) = (M : Int) := by
    split <;> omega
  have h2 : IntKind.i64.wrap ((M : Int) + 1) = ((M + 1 : Nat) : Int) := wrap_succ (by omega)
  have hc : decide (((M + 1 : Nat) : Int) ≤ (17592186044416 : Int)) = true := decide_eq_true (by omega)
  have hinit : a.take (List.replicate (M + 1) (0 : Int)).length ++ (List.replicate (M + 1) (0 : Int)).drop a.length = a ++ List.replicate (M + 1 - a.length) 0 := by
    rw [List.length_replicate, List.take_of_length_le (by omega), List.drop_replicate]
  refine Ev.step 2 (fun k => F115_eq k a b) ?_
  simp only [h1, h2, ge0, le_true (Nat.le_refl (M + 1)), hc, Bool.and_self, if_true, Int.toNat_natCast, hinit]
  have key : ∀ (m i : Nat) (x : List Int), i + m = b.length → x.length = M + 1 → VI x = VI a + VI (b.take i) → (∀ j, j < i → 0 ≤ x.getD j 0 ∧ x.getD j 0 ≤ 19998) → (∀ j, i ≤ j → j < M → 0 ≤ x.getD j 0 ∧ x.getD j 0 ≤ 9999) → x.getD M 0 = 0 →
      Ev (fun k => F115c4 k x b (b.length : Int) (i : Int)) ((digs (VI a + VI b).toNat, ()), ((), (), ())) := by
    intro m
    induction m with
    | zero =>
      intro i x hi hx hV g1 g2 g3
      have hib : i = b.length := by omega
      subst hib
      refine Ev.step 1 (fun k => F115c4_eq k _ _ _ _) ?_
      have hl : IntKind.i64.wrap ((x.length : Int) - 1) = (M : Int) := pred_len hx (by omega)
      simp only [lt_false (Nat.le_refl b.length), Bool.false_eq_true, if_false, hl]
      rw [VI_take_all] at hV
      have hall : ∀ j, j < M → 0 ≤ x.getD j 0 ∧ x.getD j 0 ≤ 19998 := fun j hj => by
        rcases Nat.lt_or_ge j b.length with h | h
        · exact g1 j h
        · have := g2 j h hj
          omega
      refine addC (by omega) M 0 x (by omega) hx hV (fun j hj => by omega) (fun j _ hj => hall j hj) ?_ (fun _ => g3) (fun _ => by omega)
      rcases Nat.eq_zero_or_pos M with h | h
      · rw [h] at g3
        omega
      · have := hall 0 h
        omega
    | succ m ih =>
      intro i x hi hx hV g1 g2 g3
      have hib : i < b.length := by omega
      have l0 : i < x.length := by omega
      have rb := hb.at hib
      have rx := g2 i (Nat.le_refl _) (by omega)
      have w1 : IntKind.i64.wrap (x.getD i 0 + b.getD i 0) = x.getD i 0 + b.getD i 0 := wrap64 (by omega) (by omega)
      refine Ev.step 1 (fun k => F115c4_eq k _ _ _ _) ?_
      simp only [lt_true hib, lt_true l0, ge0, Bool.and_self, if_true, Int.toNat_natCast, getI_of hib, getI_of l0, Option.bind_some, w1, wrap_succ (show i < 9223372036854775807 by omega)]
      refine ih (i + 1) _ (by omega) (by simpa using hx) ?_ (fun j hj => ?_) (fun j hj hj2 => ?_) ?_
      · rw [VI_set l0, VI_take_succ hib, hV]
        grind
      · rw [getI_set l0]
        split
        · omega
        · exact g1 j (by omega)
      · rw [getI_set l0, if_neg (by omega)]
        exact g2 j (by omega) hj2
      · rw [getI_set l0, if_neg (by omega)]
        exact g3
  have hpad : ∀ j, (a ++ List.replicate (M + 1 - a.length) (0 : Int)).getD j 0 = a.getD j 0 := fun j => by
    rw [List.getD_eq_getElem?_getD, List.getD_eq_getElem?_getD]
    rcases Nat.lt_or_ge j a.length with h | h
    · rw [List.getElem?_append_left h]
    · rw [List.getElem?_append_right h, List.getElem?_eq_none h, List.getElem?_replicate]
      split <;> rfl
  have := key b.length 0 (a ++ List.replicate (M + 1 - a.length) 0) (by omega) (by simp; omega) (by rw [VI_pad]; simp [VI]) (fun j hj => by omega) (fun j _ hj => by
    rw [hpad]
    rcases Nat.lt_or_ge j a.length with h | h
    · exact ha.at h
    · rw [List.getD_eq_getElem?_getD, List.getElem?_eq_none h]
      exact ⟨Int.le_refl _, by decide⟩) (by rw [hpad, List.getD_eq_getElem?_getD, List.getElem?_eq_none (by omega)]; rfl)
  exact this
theorem clone_ev (l : List Int) (h : l.length ≤ 1000000) : Ev (fun k => F135 k l) ((l, ()), ((), ())) := by
  refine Ev.step 2 (fun k => F135_eq k l) ?_
  have hc : decide (([] : List Int).length + l.length ≤ 17592186044416) = true := decide_eq_true (by simp; omega)
  simp only [hc, if_true, List.nil_append]
  cases l with
  | nil =>
    rw [bothK_same]
    exact Ev.now _
  | cons x l =>
    have : emptyL (x :: l) = false := rfl
    rw [this, bothK_false]
    exact Ev.now _
theorem VI_last {l : List Int} {n : Nat} (h : l.length = n + 1) : VI l = VI (l.take n) + l.getD n 0 * 10000 ^ n := by
  rw [← VI_take_succ (by omega), ← h, List.take_length]
/-- the borrow runs up -/
theorem subC {M : Nat} (hM : M ≤ 200001) {S : Int} (hS0 : 0 ≤ S) : ∀ (m i : Nat) (x : List Int), i + m = M → x.length = M → VI x = S → (∀ j, j < i → 0 ≤ x.getD j 0 ∧ x.getD j 0 ≤ 9999) → (∀ j, i < j → j < M → -9999 ≤ x.getD j 0 ∧ x.getD j 0 ≤ 9999) →
    (i < M → -10000 ≤ x.getD i 0 ∧ x.getD i 0 ≤ 9999) → Ev (fun k => F117c8 k x (M : Int) (i : Int)) ((digs S.toNat, ()), ((), (), ())) := by
  intro m
  induction m with
  | zero =>
    intro i x hi hx hS h1 _ _
    have hiM : i = M := by omega
    subst hiM
    refine Ev.step 1 (fun k => F117c8_eq k _ _ _) ?_
    simp only [lt_false (Nat.le_refl i), Bool.false_eq_true, if_false]
    have hr : InR x := InR.of fun j hj => h1 j (by omega)
    have := trim_ev hr (by omega)
    rw [hS] at this
    exact Ev.bind this (Ev.now _)
  | succ m ih =>
    intro i x hi hx hS h1 h2 h3
    have hiM : i < M := by omega
    have l0 : i < x.length := by omega
    have r0 := h3 hiM
    refine Ev.step 1 (fun k => F117c8_eq k _ _ _) ?_
    simp only [lt_true hiM, lt_true l0, ge0, Bool.and_self, if_true, Int.toNat_natCast, getI_of l0, Option.bind_some]
    by_cases hneg : x.getD i 0 < 0
    · have l1 : i + 1 < x.length := by
        rcases Nat.lt_or_ge (i + 1) x.length with h | h
        · exact h
        · exfalso
          have hx1 : x.length = i + 1 := by omega
          have hr : InR (x.take i) := InR.of fun j hj => by
            have hj' : j < i := by rw [List.length_take] at hj; omega
            have := h1 j hj'
            rw [List.getD_eq_getElem?_getD, List.getElem?_take_of_lt hj', ← List.getD_eq_getElem?_getD]
            exact this
          have h4 := VI_lt hr
          rw [List.length_take, Nat.min_eq_left (by omega)] at h4
          have h5 := VI_last hx1
          rw [hS] at h5
          have h6 : x.getD i 0 * 10000 ^ i ≤ -1 * 10000 ^ i := Int.mul_le_mul_of_nonneg_right (by omega) (Int.le_of_lt (pow_pos i))
          omega
      have hset : i + 1 < (x.set i (x.getD i 0 + 10000)).length := by rw [List.length_set]; exact l1
      have w1 : IntKind.i64.wrap (x.getD i 0 + 10000) = x.getD i 0 + 10000 := wrap64 (by omega) (by omega)
      have r1 := h2 (i + 1) (by omega) (by omega)
      have hget : (x.set i (x.getD i 0 + 10000)).getD (i + 1) 0 = x.getD (i + 1) 0 := by rw [getI_set l0, if_neg (by omega)]
      have w2 : IntKind.i64.wrap (x.getD (i + 1) 0 - 1) = x.getD (i + 1) 0 - 1 := wrap64 (by omega) (by omega)
      simp only [hneg, decide_true, if_true, wrap_succ (show i < 9223372036854775807 by omega), ge0, w1, lt_true hset, Bool.and_self, Int.toNat_natCast, getI_of hset, Option.bind_some, hget, w2]
      refine Ev.step 1 (fun k => F117c13_eq k _ _ _) ?_
      rw [wrap_succ (by omega)]
      have hgets : ∀ j, ((x.set i (x.getD i 0 + 10000)).set (i + 1) (x.getD (i + 1) 0 - 1)).getD j 0 = if j = i + 1 then x.getD (i + 1) 0 - 1 else if j = i then x.getD i 0 + 10000 else x.getD j 0 := fun j => by
        rw [getI_set hset, getI_set l0]
      refine ih (i + 1) _ (by omega) (by simpa using hx) ?_ (fun j hj => ?_) (fun j hj hj2 => ?_) (fun hj => ?_)
      · rw [VI_set hset, VI_set l0, hget, hS, Int.pow_succ]
        grind
      · rw [hgets, if_neg (by omega)]
        split
        · omega
        · exact h1 j (by omega)
      · rw [hgets, if_neg (by omega), if_neg (by omega)]
        exact h2 j (by omega) hj2
      · rw [hgets, if_pos rfl]
        omega
    · simp only [hneg, decide_false, Bool.false_eq_true, if_false]
      refine Ev.step 1 (fun k => F117c13_eq k _ _ _) ?_
      rw [wrap_succ (by omega)]
      refine ih (i + 1) _ (by omega) hx hS (fun j hj => ?_) (fun j hj hj2 => h2 j (by omega) hj2) (fun hj => ?_)
      · rcases Nat.eq_or_lt_of_le (Nat.le_of_lt_succ hj) with rfl | h
        · omega
        · exact h1 j h
      · have := h2 (i + 1) (by omega) hj
        omega
theorem sub_ev (ha : InR a) (hb : InR b) (tb : Trim b) (la : a.length ≤ 100000) (hle : VI b ≤ VI a) : Ev (fun k => F117 k a b) ((digs (VI a - VI b).toNat, ()), ((), (), ())) := by
  have hlen : b.length ≤ a.length := by
    rcases Nat.lt_or_ge a.length b.length with h | h
    · have := VI_len_lt ha hb tb h
      omega
    · exact h
  refine Ev.step 2 (fun k => F117_eq k a b) (Ev.bind (clone_ev a (by omega)) ?_)
  have key : ∀ (m i : Nat) (x : List Int), i + m = b.length → x.length = a.length → VI x = VI a - VI (b.take i) → (∀ j, j < i → -9999 ≤ x.getD j 0 ∧ x.getD j 0 ≤ 9999) → (∀ j, i ≤ j → j < a.length → 0 ≤ x.getD j 0 ∧ x.getD j 0 ≤ 9999) →
      Ev (fun k => F117c3 k x b (b.length : Int) (i : Int)) ((digs (VI a - VI b).toNat, ()), ((), (), ())) := by
    intro m
    induction m with
    | zero =>
      intro i x hi hx hV g1 g2
      have hib : i = b.length := by omega
      subst hib
      refine Ev.step 1 (fun k => F117c3_eq k _ _ _ _) ?_
      simp only [lt_false (Nat.le_refl b.length), Bool.false_eq_true, if_false]
      rw [VI_take_all] at hV
      have hall : ∀ j, j < x.length → -9999 ≤ x.getD j 0 ∧ x.getD j 0 ≤ 9999 := fun j hj => by
        rcases Nat.lt_or_ge j b.length with h | h
        · exact g1 j h
        · have := g2 j h (by omega)
          omega
      exact subC (by omega) (by omega) x.length 0 x (by omega) rfl hV (fun j hj => by omega) (fun j _ hj => hall j hj) (fun hj => by have := hall 0 hj; omega)
    | succ m ih =>
      intro i x hi hx hV g1 g2
      have hib : i < b.length := by omega
      have l0 : i < x.length := by omega
      have rb := hb.at hib
      have rx := g2 i (Nat.le_refl _) (by omega)
      have w1 : IntKind.i64.wrap (x.getD i 0 - b.getD i 0) = x.getD i 0 - b.getD i 0 := wrap64 (by omega) (by omega)
      refine Ev.step 1 (fun k => F117c3_eq k _ _ _ _) ?_
      simp only [lt_true hib, lt_true l0, ge0, Bool.and_self, if_true, Int.toNat_natCast, getI_of hib, getI_of l0, Option.bind_some, w1, wrap_succ (show i < 9223372036854775807 by omega)]
      refine ih (i + 1) _ (by omega) (by simpa using hx) ?_ (fun j hj => ?_) (fun j hj hj2 => ?_)
      · rw [VI_set l0, VI_take_succ hib, hV]
        grind
      · rw [getI_set l0]
        split
        · omega
        · exact g1 j (by omega)
      · rw [getI_set l0, if_neg (by omega)]
        exact g2 j (by omega) hj2
  exact key b.length 0 a (by omega) rfl (by simp [VI]) (fun j hj => by omega) (fun j _ hj => ha.at hj)
end
end Go.Proofs.YthpgglegdhjihaaGreatDoor.R
end

section
/-! Rf, limbs: products, powers of ten. -/
set_option autoImplicit false
namespace Go.Proofs.YthpgglegdhjihaaGreatDoor.R
open Go.Rf
theorem mul_small {x y : Int} (hx : 0 ≤ x ∧ x ≤ 9999) (hy : 0 ≤ y ∧ y ≤ 9999) : 0 ≤ x * y ∧ x * y ≤ 99980001 := by
  refine ⟨Int.mul_nonneg hx.1 hy.1, ?_⟩
  have := Int.mul_le_mul hx.2 hy.2 hy.1 (show (0 : Int) ≤ 9999 by omega)
  omega
theorem addN {i k : Nat} (h : i + k < 4611686018427387904) : IntKind.i64.wrap ((i : Int) + (k : Int)) = ((i + k : Nat) : Int) := by
  rw [wrap64 (by omega) (by omega)]
  omega
/-- one limb more of a product's row -/
theorem VI_row {x : List Int} {i k : Nat} {V0 ai c s n : Int} {b : List Int} (hk : k < b.length) (hx : i + k < x.length) (hV : VI x + c * 10000 ^ (i + k) = V0 + ai * VI (b.take k) * 10000 ^ i) (hn : n = x.getD (i + k) 0 + ai * b.getD k 0 + c) (hs : s = n % 10000) :
    VI (x.set (i + k) s) + n / 10000 * 10000 ^ (i + (k + 1)) = V0 + ai * VI (b.take (k + 1)) * 10000 ^ i := by
  have e1 : n = 10000 * (n / 10000) + s := by omega
  have e2 : (10000 : Int) ^ (i + (k + 1)) = 10000 ^ (i + k) * 10000 := by rw [← Nat.add_assoc, Int.pow_succ]
  have e3 : (10000 : Int) ^ (i + k) = 10000 ^ i * 10000 ^ k := Int.pow_add 10000 i k
  rw [VI_set hx, VI_take_succ hk, e2]
  rw [e3] at hV ⊢
  grind
section
variable {a b : List Int}
theorem mulI (ha : InR a) (hb : InR b) (la : a.length ≤ 100000) (lb : b.length ≤ 100000) {i : Nat} (hi : i < a.length) {V0 : Int} {R : (List Int × Unit) × (Unit × Unit × Unit)}
    (hR : ∀ x : List Int, x.length = a.length + b.length + 1 → VI x = V0 + a.getD i 0 * VI b * 10000 ^ i → InR x → (∀ j, i + 1 + b.length ≤ j → x.getD j 0 = 0) → Ev (fun k => F113c3 k b x a (a.length : Int) ((i + 1 : Nat) : Int)) R) :
    ∀ (m n : Nat) (x : List Int) (c : Int), n + m = b.length → x.length = a.length + b.length + 1 → VI x + c * 10000 ^ (i + n) = V0 + a.getD i 0 * VI (b.take n) * 10000 ^ i → InR x → (0 ≤ c ∧ c ≤ 9999) → (∀ j, i + b.length ≤ j → x.getD j 0 = 0) →
    Ev (fun k => F113c7 k b x (i : Int) (a.getD i 0) c a (a.length : Int) (i : Int) b (b.length : Int) (n : Int)) R := by
  intro m
  induction m with
  | zero =>
    intro n x c hn hx hV hr hc h0
    have hnb : n = b.length := by omega
    subst hnb
    have l0 : i + b.length < x.length := by omega
    have hz := h0 (i + b.length) (Nat.le_refl _)
    have w1 : IntKind.i64.wrap (0 + c) = c := by rw [wrap64 (by omega) (by omega)]; omega
    refine Ev.step 1 (fun k => F113c7_eq k _ _ _ _ _ _ _ _ _ _ _) ?_
    simp only [lt_false (Nat.le_refl b.length), Bool.false_eq_true, if_false, addN (show i + b.length < 4611686018427387904 by omega), ge0, lt_true l0, Bool.and_self, if_true, Int.toNat_natCast, getI_of l0, Option.bind_some, hz, w1, wrap_succ (show i < 9223372036854775807 by omega)]
    rw [VI_take_all] at hV
    refine hR _ (by simpa using hx) ?_ (InR.of fun j hj => ?_) (fun j hj => ?_)
    · rw [VI_set l0, hz, ← hV, Int.sub_zero]
    · rw [getI_set l0]
      split
      · omega
      · exact hr.at (by simpa using hj)
    · rw [getI_set l0, if_neg (by omega)]
      exact h0 j (by omega)
  | succ m ih =>
    intro n x c hn hx hV hr hc h0
    have hnb : n < b.length := by omega
    have l0 : i + n < x.length := by omega
    have ra := ha.at hi
    have rb := hb.at hnb
    have rx := hr.at l0
    have rm := mul_small ra rb
    obtain ⟨v, hv⟩ : ∃ v, v = x.getD (i + n) 0 + a.getD i 0 * b.getD n 0 + c := ⟨_, rfl⟩
    have w1 : IntKind.i64.wrap (a.getD i 0 * b.getD n 0) = a.getD i 0 * b.getD n 0 := wrap64 (by omega) (by omega)
    have w2 : IntKind.i64.wrap (x.getD (i + n) 0 + a.getD i 0 * b.getD n 0) = x.getD (i + n) 0 + a.getD i 0 * b.getD n 0 := wrap64 (by omega) (by omega)
    have w3 : IntKind.i64.wrap v = v := wrap64 (by omega) (by omega)
    have hv0 : 0 ≤ v := by omega
    refine Ev.step 1 (fun k => F113c7_eq k _ _ _ _ _ _ _ _ _ _ _) ?_
    simp only [lt_true hnb, addN (show i + n < 4611686018427387904 by omega), ge0, lt_true l0, Bool.and_self, if_true, Int.toNat_natCast, getI_of hnb, getI_of l0, Option.bind_some, w1, w2, ← hv, w3, tdiv_pos hv0, tmod_pos hv0, wrap_succ (show n < 9223372036854775807 by omega)]
    rw [wrap64 (n := v / 10000) (by omega) (by omega)]
    refine ih (n + 1) _ _ (by omega) (by simpa using hx) (VI_row hnb l0 hV hv rfl) (InR.of fun j hj => ?_) (by omega) (fun j hj => ?_)
    · rw [getI_set l0]
      split
      · omega
      · exact hr.at (by simpa using hj)
    · rw [getI_set l0, if_neg (by omega)]
      exact h0 j hj
theorem mul_ev (ha : InR a) (hb : InR b) (la : a.length ≤ 100000) (lb : b.length ≤ 100000) : Ev (fun k => F113 k a b) ((digs (VI a * VI b).toNat, ()), ((), (), ())) := by
  have e1 : IntKind.i64.wrap (((a.length + b.length : Nat) : Int) + 1) = ((a.length + b.length + 1 : Nat) : Int) := wrap_succ (by omega)
  have hc : decide (((a.length + b.length + 1 : Nat) : Int) ≤ (17592186044416 : Int)) = true := decide_eq_true (by omega)
  refine Ev.step 2 (fun k => F113_eq k a b) ?_
  simp only [addN (show a.length + b.length < 4611686018427387904 by omega), e1, ge0, le_true (Nat.le_refl (a.length + b.length + 1)), hc, Bool.and_self, if_true, Int.toNat_natCast]
  have key : ∀ (m i : Nat) (x : List Int), i + m = a.length → x.length = a.length + b.length + 1 → VI x = VI (a.take i) * VI b → InR x → (∀ j, i + b.length ≤ j → x.getD j 0 = 0) → Ev (fun k => F113c3 k b x a (a.length : Int) (i : Int)) ((digs (VI a * VI b).toNat, ()), ((), (), ())) := by
    intro m
    induction m with
    | zero =>
      intro i x hi hx hV hr _
      have hia : i = a.length := by omega
      subst hia
      refine Ev.step 1 (fun k => F113c3_eq k _ _ _ _ _) ?_
      simp only [lt_false (Nat.le_refl a.length), Bool.false_eq_true, if_false]
      have := trim_ev hr (by omega)
      rw [hV, VI_take_all] at this
      exact Ev.bind this (Ev.now _)
    | succ m ih =>
      intro i x hi hx hV hr h0
      have hia : i < a.length := by omega
      refine Ev.step 1 (fun k => F113c3_eq k _ _ _ _ _) ?_
      simp only [lt_true hia, ge0, if_true, Int.toNat_natCast, getI_of hia, Option.bind_some]
      refine mulI ha hb la lb hia (V0 := VI (a.take i) * VI b) (fun y h1 h2 h3 h4 => ih (i + 1) y (by omega) h1 ?_ h3 h4) b.length 0 x 0 (by omega) hx ?_ hr (by omega) h0
      · rw [h2, VI_take_succ hia]
        grind
      · rw [hV]
        simp [VI]
  have hz : ∀ j, (List.replicate (a.length + b.length + 1) (0 : Int)).getD j 0 = 0 := fun j => by
    rw [List.getD_eq_getElem?_getD, List.getElem?_replicate]
    split <;> rfl
  exact key a.length 0 _ (by omega) (by simp) (by rw [VI_zeros]; simp [VI]) (fun d hd => by rw [(List.mem_replicate.1 hd).2]; omega) (fun j _ => hz j)
theorem limb_ev {i : Nat} : Ev (fun k => F132 k b (i : Int)) ((b.getD i 0, ()), ((), (), ())) := by
  refine Ev.step 2 (fun k => F132_eq k b i) ?_
  rcases Nat.lt_or_ge i b.length with h | h
  · simp only [lt_true h, ge0, if_true, Int.toNat_natCast, getI_of h, Option.bind_some]
    exact Ev.now _
  · simp only [lt_false h, Bool.false_eq_true, if_false]
    rw [List.getD_eq_getElem?_getD, List.getElem?_eq_none h]
    exact Ev.now _
theorem l1MulI (ha : InR a) (hb : InR b) (la : a.length ≤ 100000) (lb : b.length ≤ 100000) {i : Nat} (hi : i < a.length) {V0 : Int} {R : (List Int × Unit) × (Unit × Unit × Unit)}
    (hR : ∀ x : List Int, x.length = a.length + b.length → VI x = V0 + a.getD i 0 * VI b * 10000 ^ i → InR x → (∀ j, i + 1 + b.length ≤ j → x.getD j 0 = 0) → Ev (fun k => F109c3 k a b x ((i + 1 : Nat) : Int)) R) :
    ∀ (m n : Nat) (x : List Int) (c : Int), n + m = b.length → x.length = a.length + b.length → VI x + c * 10000 ^ (i + n) = V0 + a.getD i 0 * VI (b.take n) * 10000 ^ i → InR x → (0 ≤ c ∧ c ≤ 9999) → (∀ j, i + b.length ≤ j → x.getD j 0 = 0) →
    Ev (fun k => F109c7 k a b x (i : Int) c (n : Int)) R := by
  intro m
  have ra := ha.at hi
  induction m with
  | zero =>
    intro n x c hn hx hV hr hc h0
    have hnb : n = b.length := by omega
    subst hnb
    have l0 : i + b.length < x.length := by omega
    have hz := h0 (i + b.length) (Nat.le_refl _)
    rw [VI_take_all] at hV
    refine Ev.step 1 (fun k => F109c7_eq k _ _ _ _ _ _) ?_
    simp only [lt_false (Nat.le_refl b.length), Bool.false_eq_true, if_false]
    by_cases hpos : c > 0
    · have hlimb : b.getD b.length 0 = 0 := by rw [List.getD_eq_getElem?_getD, List.getElem?_eq_none (Nat.le_refl _)]; rfl
      simp only [hpos, decide_true, if_true, addN (show i + b.length < 4611686018427387904 by omega), ge0, lt_true l0, Bool.and_self, Int.toNat_natCast, getI_of l0, getI_of hi, Option.bind_some]
      refine Ev.bind limb_ev ?_
      have e0 : IntKind.i64.wrap (a.getD i 0 * 0) = 0 := by rw [Int.mul_zero]; decide
      have e1 : IntKind.i64.wrap ((0 : Int) + 0) = 0 := by decide
      have e2 : IntKind.i64.wrap (0 + c) = c := by rw [wrap64 (by omega) (by omega)]; omega
      have e3 : c / 10000 = 0 := by omega
      have e4 : c % 10000 = c := by omega
      have e5 : IntKind.i64.wrap (0 : Int) = 0 := by decide
      simp only [hlimb, hz, e0, e1, e2, tdiv_pos hc.1, tmod_pos hc.1, e3, e4, e5, wrap_succ (show b.length < 9223372036854775807 by omega)]
      have hgt : decide (((b.length + 1 : Nat) : Int) < (b.length : Int)) = false := lt_false (by omega)
      have h00 : decide ((0 : Int) > 0) = false := by decide
      refine Ev.step 1 (fun k => F109c7_eq k _ _ _ _ _ _) ?_
      simp only [hgt, h00, Bool.false_eq_true, if_false, wrap_succ (show i < 9223372036854775807 by omega)]
      refine hR _ (by simpa using hx) ?_ (InR.of fun j hj => ?_) (fun j hj => ?_)
      · rw [VI_set l0, hz, ← hV, Int.sub_zero]
      · rw [getI_set l0]
        split
        · omega
        · exact hr.at (by simpa using hj)
      · rw [getI_set l0, if_neg (by omega)]
        exact h0 j (by omega)
    · have hc0 : c = 0 := by omega
      subst hc0
      simp only [hpos, decide_false, Bool.false_eq_true, if_false, wrap_succ (show i < 9223372036854775807 by omega)]
      refine hR x hx (by rw [← hV]; omega) hr (fun j hj => h0 j (by omega))
  | succ m ih =>
    intro n x c hn hx hV hr hc h0
    have hnb : n < b.length := by omega
    have l0 : i + n < x.length := by omega
    have rb := hb.at hnb
    have rx := hr.at l0
    have rm := mul_small ra rb
    obtain ⟨v, hv⟩ : ∃ v, v = x.getD (i + n) 0 + a.getD i 0 * b.getD n 0 + c := ⟨_, rfl⟩
    have w1 : IntKind.i64.wrap (a.getD i 0 * b.getD n 0) = a.getD i 0 * b.getD n 0 := wrap64 (by omega) (by omega)
    have w2 : IntKind.i64.wrap (x.getD (i + n) 0 + a.getD i 0 * b.getD n 0) = x.getD (i + n) 0 + a.getD i 0 * b.getD n 0 := wrap64 (by omega) (by omega)
    have w3 : IntKind.i64.wrap v = v := wrap64 (by omega) (by omega)
    have hv0 : 0 ≤ v := by omega
    refine Ev.step 1 (fun k => F109c7_eq k _ _ _ _ _ _) ?_
    simp only [lt_true hnb, addN (show i + n < 4611686018427387904 by omega), ge0, lt_true l0, Bool.and_self, if_true, Int.toNat_natCast, getI_of hi, getI_of l0, Option.bind_some]
    refine Ev.bind limb_ev ?_
    simp only [w1, w2, ← hv, w3, tdiv_pos hv0, tmod_pos hv0, wrap_succ (show n < 9223372036854775807 by omega)]
    rw [wrap64 (n := v / 10000) (by omega) (by omega)]
    refine ih (n + 1) _ _ (by omega) (by simpa using hx) (VI_row hnb l0 hV hv rfl) (InR.of fun j hj => ?_) (by omega) (fun j hj => ?_)
    · rw [getI_set l0]
      split
      · omega
      · exact hr.at (by simpa using hj)
    · rw [getI_set l0, if_neg (by omega)]
      exact h0 j hj
theorem l1MulAbs_ev (ha : InR a) (hb : InR b) (la : a.length ≤ 100000) (lb : b.length ≤ 100000) : Ev (fun k => F109 k a b) ((digs (VI a * VI b).toNat, ()), ((), (), ())) := by
  have hc : decide (((a.length + b.length : Nat) : Int) ≤ (17592186044416 : Int)) = true := decide_eq_true (by omega)
  refine Ev.step 2 (fun k => F109_eq k a b) ?_
  simp only [addN (show a.length + b.length < 4611686018427387904 by omega), ge0, le_true (Nat.le_refl (a.length + b.length)), hc, Bool.and_self, if_true, Int.toNat_natCast]
  have key : ∀ (m i : Nat) (x : List Int), i + m = a.length → x.length = a.length + b.length → VI x = VI (a.take i) * VI b → InR x → (∀ j, i + b.length ≤ j → x.getD j 0 = 0) → Ev (fun k => F109c3 k a b x (i : Int)) ((digs (VI a * VI b).toNat, ()), ((), (), ())) := by
    intro m
    induction m with
    | zero =>
      intro i x hi hx hV hr _
      have hia : i = a.length := by omega
      subst hia
      refine Ev.step 1 (fun k => F109c3_eq k _ _ _ _) ?_
      simp only [lt_false (Nat.le_refl a.length), Bool.false_eq_true, if_false]
      have := l1Trim_ev hr (by omega)
      rw [hV, VI_take_all] at this
      exact Ev.bind this (Ev.now _)
    | succ m ih =>
      intro i x hi hx hV hr h0
      have hia : i < a.length := by omega
      refine Ev.step 1 (fun k => F109c3_eq k _ _ _ _) ?_
      simp only [lt_true hia, if_true]
      refine l1MulI ha hb la lb hia (V0 := VI (a.take i) * VI b) (fun y h1 h2 h3 h4 => ih (i + 1) y (by omega) h1 ?_ h3 h4) b.length 0 x 0 (by omega) hx ?_ hr (by omega) h0
      · rw [h2, VI_take_succ hia]
        grind
      · rw [hV]
        simp [VI]
  have hz : ∀ j, (List.replicate (a.length + b.length) (0 : Int)).getD j 0 = 0 := fun j => by
    rw [List.getD_eq_getElem?_getD, List.getElem?_replicate]
    split <;> rfl
  exact key a.length 0 _ (by omega) (by simp) (by rw [VI_zeros]; simp [VI]) (fun d hd => by rw [(List.mem_replicate.1 hd).2]; omega) (fun j _ => hz j)
end
theorem digs_small {n : Nat} (h : 0 < n) (h2 : n < 10000) : digs n = [(n : Int)] := by
  rw [digs_pos (by omega), Nat.div_eq_of_lt h2, Nat.mod_eq_of_lt h2, digs_zero]
theorem VI_digs (n : Nat) : VI (digs n) = (n : Int) := (digs_spec n).2.2
theorem ten_len (i : Nat) : (digs (10 ^ i)).length ≤ i + 1 := digs_len_le (by
  have h1 : 10 ^ i ≤ 10000 ^ i := Nat.pow_le_pow_left (by omega) i
  have h2 : 0 < 10000 ^ i := Nat.pow_pos (by omega)
  rw [Nat.pow_succ]
  omega)
theorem ten_ev (n : Nat) (hn : n ≤ 1000) : Ev (fun k => F114 k (n : Int)) ((digs (10 ^ n), ()), ((), ())) := by
  have h1 : [(1 : Int)] = digs (10 ^ 0) := by rw [Nat.pow_zero, digs_small (by omega) (by omega)]; rfl
  refine Ev.step 2 (fun k => F114_eq k n) ?_
  have key : ∀ m i, i + m = n → Ev (fun k => F114c3 k (digs (10 ^ i)) (n : Int) (i : Int)) ((digs (10 ^ n), ()), ((), ())) := by
    intro m
    induction m with
    | zero =>
      intro i hi
      have : i = n := by omega
      subst this
      refine Ev.step 1 (fun k => F114c3_eq k _ _ _) ?_
      simp only [lt_false (Nat.le_refl i), Bool.false_eq_true, if_false]
      exact Ev.now _
    | succ m ih =>
      intro i hi
      have hin : i < n := by omega
      have hm := mul_ev (a := digs (10 ^ i)) (b := [10]) (digs_spec _).1 (InR.mk (by omega) InR.nil) (by have := ten_len i; omega) (by simp)
      have e : (VI (digs (10 ^ i)) * VI [10]).toNat = 10 ^ (i + 1) := by
        have : VI [10] = 10 := by decide
        rw [VI_digs, this, Nat.pow_succ]
        omega
      rw [e] at hm
      refine Ev.step 1 (fun k => F114c3_eq k _ _ _) ?_
      simp only [lt_true hin, if_true, wrap_succ (show i < 9223372036854775807 by omega)]
      exact Ev.bind hm (ih (i + 1) (by omega))
  rw [h1]
  exact key n 0 (by omega)
theorem tens_digs (q : Nat) {t : Nat} (h0 : 0 < t) (h1 : t < 10000) : List.replicate q (0 : Int) ++ [(t : Int)] = digs (t * 10000 ^ q) := by
  refine digs_of (fun d hd => ?_) (.inr ?_) ?_
  · rcases List.mem_append.1 hd with hd | hd
    · rw [(List.mem_replicate.1 hd).2]
      omega
    · rw [List.mem_singleton.1 hd]
      omega
  · rw [List.length_append, List.length_replicate, List.getD_eq_getElem?_getD, List.getElem?_append_right (by simp)]
    simp
    omega
  · rw [VI_append, VI_zeros, List.length_replicate]
    show (0 : Int) + 10000 ^ q * ((t : Int) + 10000 * 0) = ((t * 10000 ^ q : Nat) : Int)
    rw [Int.natCast_mul, Int.natCast_pow]
    grind
theorem l1TenAbs_ev (n : Nat) (hn : n ≤ 1000) : Ev (fun k => F110 k (n : Int)) ((digs (10 ^ n), ()), ((), ())) := by
  have top : ∀ (m : Nat) (x : List Int) (t : Nat), x.length ≤ 1000 → t * 10 ^ m ≤ 1000000 → 0 < t → Ev (fun k => F110c6 k (m : Int) x (t : Int)) ((x ++ [((t * 10 ^ m : Nat) : Int)], ()), ((), ())) := by
    intro m
    induction m with
    | zero =>
      intro x t hx _ _
      have hc : decide (x.length + [(t : Int)].length ≤ 17592186044416) = true := decide_eq_true (by simp; omega)
      have h0 : decide (((0 : Nat) : Int) > 0) = false := by decide
      refine Ev.step 1 (fun k => F110c6_eq k _ _ _) ?_
      simp only [h0, Bool.false_eq_true, if_false, hc, if_true]
      rw [Nat.pow_zero, Nat.mul_one]
      exact Ev.now _
    | succ m ih =>
      intro x t hx ht h0
      have hp : 0 < 10 ^ m := Nat.pow_pos (by omega)
      have e : t * 10 ^ (m + 1) = t * 10 * 10 ^ m := by rw [Nat.pow_succ]; grind
      have ht10 : t * 10 ≤ t * 10 * 10 ^ m := Nat.le_mul_of_pos_right _ hp
      have hm : m ≤ 1000000 := by
        have h1 : m < 10 ^ m := Nat.lt_pow_self (by omega)
        have h2 : 10 ^ m ≤ t * 10 * 10 ^ m := Nat.le_mul_of_pos_left _ (by omega)
        omega
      have w1 : IntKind.i64.wrap (((m + 1 : Nat) : Int) - 1) = (m : Int) := by rw [wrap64 (by omega) (by omega)]; omega
      have w2 : IntKind.i64.wrap ((t : Int) * 10) = ((t * 10 : Nat) : Int) := by rw [wrap64 (by omega) (by omega)]; omega
      have hg : decide (((m + 1 : Nat) : Int) > 0) = true := decide_eq_true (by omega)
      refine Ev.step 1 (fun k => F110c6_eq k _ _ _) ?_
      simp only [hg, if_true, w1, w2]
      rw [e]
      exact ih x (t * 10) hx (by omega) (by omega)
  have key : ∀ (n q : Nat), n ≤ 1000 → q ≤ 500 - n / 4 → Ev (fun k => F110c2 k (n : Int) (List.replicate q 0)) ((digs (10 ^ n * 10000 ^ q), ()), ((), ())) := by
    intro n
    induction n using Nat.strongRecOn with
    | _ n ih =>
      intro q hn hq
      refine Ev.step 1 (fun k => F110c2_eq k _ _) ?_
      by_cases h4 : 4 ≤ n
      · have hg : decide ((n : Int) ≥ 4) = true := decide_eq_true (by omega)
        have hc : decide ((List.replicate q (0 : Int)).length + [(0 : Int)].length ≤ 17592186044416) = true := decide_eq_true (by simp; omega)
        have w1 : IntKind.i64.wrap ((n : Int) - 4) = ((n - 4 : Nat) : Int) := by rw [wrap64 (by omega) (by omega)]; omega
        have er : List.replicate q (0 : Int) ++ [0] = List.replicate (q + 1) 0 := List.replicate_succ'.symm
        have e : 10 ^ n * 10000 ^ q = 10 ^ (n - 4) * 10000 ^ (q + 1) := by
          have h1 : 10 ^ n = 10 ^ (n - 4) * 10000 := by
            have : n = (n - 4) + 4 := by omega
            rw [this, Nat.pow_add]
            simp
          rw [h1, Nat.pow_succ]
          grind
        simp only [hg, if_true, hc, w1, er]
        rw [e]
        exact ih (n - 4) (by omega) (q + 1) (by omega) (by omega)
      · have hg : decide ((n : Int) ≥ 4) = false := decide_eq_false (by omega)
        have hp : 10 ^ n ≤ 1000 := by
          have : n = 0 ∨ n = 1 ∨ n = 2 ∨ n = 3 := by omega
          rcases this with h | h | h | h <;> subst h <;> decide
        have hp0 : 0 < 10 ^ n := Nat.pow_pos (by omega)
        simp only [hg, Bool.false_eq_true, if_false]
        have := top n (List.replicate q 0) 1 (by simp; omega) (by omega) (by omega)
        rw [Nat.one_mul, tens_digs q hp0 (by omega)] at this
        exact this
  have := key n 0 hn (by omega)
  rw [Nat.pow_zero, Nat.mul_one] at this
  exact Ev.step 2 (fun k => F110_eq k n) this
end Go.Proofs.YthpgglegdhjihaaGreatDoor.R
end
