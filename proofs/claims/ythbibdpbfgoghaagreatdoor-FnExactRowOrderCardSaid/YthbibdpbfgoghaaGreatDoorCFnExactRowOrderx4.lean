/- A part of the proof that the law FnExactRowOrder answers true for every input: contracts of functions that it reaches, or its plain law. -/
import Derived.Lib.Bytealg
import Derived.Test.YthbibdpbfgoghaaGreatDoorProg
import Derived.KernelRfl
import Derived.RangeFuncNested
import Derived.RangeFuncBound
import Derived.RangeFuncCalls
import Derived.RangeFuncLeaves
import Derived.Shelf.Abstract
import Derived.Shelf.RegionOpen
import Derived.WalkKit
import Derived.OwnWalkIn
import Derived.TacticsInMore
import Derived.LoopNIn
import Derived.LoopIn
import Derived.Shelf.Strings.BuilderF
import Derived.Lib.FrozenHead2
import Derived.Lib.OthersKept
import Derived.Lib.ItoaNum
import Derived.Lib.Repeat
import Derived.Shelf.Strings.Builder1
import Derived.Shelf.Strings.Builder2
import Derived.Shelf.Small.Strs
import Derived.Shelf.Small.Wraps
import Derived.Shelf.Strings.BuilderK
import Derived.Shelf.Strings.Builder2Cap
import Derived.Shelf.Strconv.Itoa0
import Derived.Shelf.Strconv.Itoa1
import Derived.Shelf.LaysM
import Derived.Shelf.Strconv.Itoa2
import Derived.Shelf.Strconv.Itoa3
import Derived.Shelf.Strings.Prefix
import Derived.Shelf.Bits.Mul64
import Derived.Shelf.Strings.Repeat
import Derived.Shelf.Strings.BuilderCap
import Derived.Ground.Names2Prog
import Derived.Shelf.Slices.SearchI
import Derived.Lib.LaidTab
import Derived.Lib.AppendIntMem
import Derived.Test.YthbibdpbfgoghaaGreatDoorRows
import Derived.ProofKit
import Derived.OpenShut
import Derived.ShutString
import Derived.ChangeOld
import Derived.Below
import Derived.SizedLaws
import Derived.Carry
import Derived.Test.YthbibdpbfgoghaaGreatDoorCards
import Derived.Test.YthbibdpbfgoghaaGreatDoorTie
import Derived.LaidMore
import Derived.Stop.Joined
import Derived.Stop.LaidErr
import Derived.SevenTiedAt
import Derived.Lib.Strings
import Derived.Test.YthbibdpbfgoghaaGreatDoorCFnExactRowOrderx0
import Derived.Test.YthbibdpbfgoghaaGreatDoorCFnExactRowOrderx1
import Derived.Test.YthbibdpbfgoghaaGreatDoorCFnExactRowOrderx2
import Derived.Test.YthbibdpbfgoghaaGreatDoorCFnExactRowOrderx3
namespace Go.Proofs.YthbibdpbfgoghaaGreatDoor.Q
end Go.Proofs.YthbibdpbfgoghaaGreatDoor.Q
namespace Go.Proofs.YthbibdpbfgoghaaGreatDoor.R
end Go.Proofs.YthbibdpbfgoghaaGreatDoor.R
namespace Go.Proofs.YthbibdpbfgoghaaGreatDoorW.PrintLast
end Go.Proofs.YthbibdpbfgoghaaGreatDoorW.PrintLast
namespace Go.Proofs.YthbibdpbfgoghaaGreatDoorW.PrintMore
end Go.Proofs.YthbibdpbfgoghaaGreatDoorW.PrintMore
namespace Go.Proofs.YthbibdpbfgoghaaGreatDoorW.PrintWords
end Go.Proofs.YthbibdpbfgoghaaGreatDoorW.PrintWords
section
/-! Rf: the seat's tables. -/
set_option autoImplicit false
namespace Go.Proofs.YthbibdpbfgoghaaGreatDoor.R
open Go.Rf
noncomputable def tabs : Tabs where
  ty := [(3, ⟨false, [.int .i64], [], 8⟩),
    (4, ⟨false, [.bool], [], 1⟩),
    (5, ⟨false, [.int .u8], [], 1⟩),
    (9, ⟨false, [.str], [], 16⟩),
    (22, ⟨false, [.sl (.pair (.int .i64) (.pair .bool (.pair .bool (.pair (.sl (.int .i64)) (.pair (.int .i64) (.pair (.int .i64) (.pair (.int .i64) (.pair (.int .i64) (.pair .str .unit)))))))))], [], 24⟩),
    (23, ⟨false, [.sl (.int .i64)], [], 24⟩),
    (24, ⟨false, [.sl .bool], [], 24⟩),
    (27, ⟨false, [.sl (.pair (.int .i64) (.pair .bool (.pair .bool (.pair (.sl (.int .i64)) (.pair (.int .i64) (.pair (.int .i64) (.pair (.int .i64) (.pair (.int .i64) (.pair .str .unit)))))))))], [], 24⟩),
    (37, ⟨true, [.bool, .sl (.int .i64)], [(0, 1, false), (1, 1, false)], 32⟩),
    (39, ⟨true, [.bool, .sl (.int .i64), .int .i64], [(0, 2, true), (2, 1, false)], 40⟩),
    (41, ⟨true, [.int .i64, .int .i64], [(0, 1, false), (1, 1, false)], 16⟩),
    (43, ⟨true, [.int .i64, .bool, .bool, .sl (.int .i64), .int .i64, .int .i64, .int .i64, .int .i64, .str], [(0, 1, false), (1, 1, false), (2, 3, true), (5, 1, false), (6, 2, true), (8, 1, false)], 96⟩),
    (46, ⟨true, [.bool, .sl (.int .i64)], [(0, 1, false), (1, 1, false)], 32⟩),
    (48, ⟨true, [.bool, .sl (.int .i64), .int .i64], [(0, 2, true), (2, 1, false)], 40⟩),
    (49, ⟨true, [.int .i64, .int .i64], [(0, 1, false), (1, 1, false)], 16⟩),
    (51, ⟨true, [.int .i64, .bool, .bool, .sl (.int .i64), .int .i64, .int .i64, .int .i64, .int .i64, .str], [(0, 1, false), (1, 1, false), (2, 3, true), (5, 1, false), (6, 2, true), (8, 1, false)], 96⟩),
    (76, ⟨false, [.sl (.int .i64)], [], 24⟩),
    (91, ⟨false, [.sl (.int .u8)], [], 24⟩),
    (104, ⟨true, [.bool, .sl (.int .i64)], [(0, 1, false), (1, 1, false)], 32⟩)]
  el := [(22, 43), (23, 3), (24, 4), (27, 51), (76, 3), (91, 5)]
  ifcs := []
  known := [3, 4, 5, 6, 7, 8, 9, 10, 11, 12, 13, 14, 15, 16, 17, 18, 19, 20, 21, 22, 23, 24, 25, 26, 27, 28, 29, 30, 31, 32, 33, 34, 35, 36, 37, 38, 39, 40, 41, 42, 43, 44, 45, 46, 47, 48, 49, 50, 51, 52, 53, 54, 55, 56, 57, 58, 59, 60, 61, 62, 63, 64, 65, 66, 67, 68, 69, 70, 71, 72, 78, 79, 80, 81, 83, 84, 85, 86, 87, 95, 96, 97, 98, 99, 100, 102, 103, 110, 111]
  spec := [(3, ⟨[.c (.v (.sl (.pair (.int .i64) (.pair .bool (.pair .bool (.pair (.sl (.int .i64)) (.pair (.int .i64) (.pair (.int .i64) (.pair (.int .i64) (.pair (.int .i64) (.pair .str .unit))))))))))), .c (.v (.sl (.pair (.int .i64) (.pair .bool (.pair .bool (.pair (.sl (.int .i64)) (.pair (.int .i64) (.pair (.int .i64) (.pair (.int .i64) (.pair (.int .i64) (.pair .str .unit))))))))))), .c (.v (.sl (.int .i64))), .c (.v (.sl .bool))], [.c (.v .bool)]⟩),
    (4, ⟨[.c (.v (.sl (.pair (.int .i64) (.pair .bool (.pair .bool (.pair (.sl (.int .i64)) (.pair (.int .i64) (.pair (.int .i64) (.pair (.int .i64) (.pair (.int .i64) (.pair .str .unit))))))))))), .c (.v (.int .i64))], [.c (.v (.int .i64))]⟩),
    (5, ⟨[.c (.v (.sl (.pair (.int .i64) (.pair .bool (.pair .bool (.pair (.sl (.int .i64)) (.pair (.int .i64) (.pair (.int .i64) (.pair (.int .i64) (.pair (.int .i64) (.pair .str .unit))))))))))), .c (.v (.sl (.pair (.int .i64) (.pair .bool (.pair .bool (.pair (.sl (.int .i64)) (.pair (.int .i64) (.pair (.int .i64) (.pair (.int .i64) (.pair (.int .i64) (.pair .str .unit))))))))))), .c (.v (.sl (.int .i64))), .c (.v (.sl .bool))], [.c (.v (.int .i64))]⟩),
    (6, ⟨[.c (.v (.sl (.pair (.int .i64) (.pair .bool (.pair .bool (.pair (.sl (.int .i64)) (.pair (.int .i64) (.pair (.int .i64) (.pair (.int .i64) (.pair (.int .i64) (.pair .str .unit)))))))))))], [.c (.v (.sl (.pair (.int .i64) (.pair .bool (.pair .bool (.pair (.sl (.int .i64)) (.pair (.int .i64) (.pair (.int .i64) (.pair (.int .i64) (.pair (.int .i64) (.pair .str .unit)))))))))))]⟩),
    (7, ⟨[.c (.v (.sl (.int .i64)))], [.c (.v (.sl (.int .i64)))]⟩),
    (8, ⟨[.c (.v (.sl .bool))], [.c (.v (.sl .bool))]⟩),
    (9, ⟨[.c (.v (.sl (.pair (.int .i64) (.pair .bool (.pair .bool (.pair (.sl (.int .i64)) (.pair (.int .i64) (.pair (.int .i64) (.pair (.int .i64) (.pair (.int .i64) (.pair .str .unit))))))))))), .c (.v (.sl (.pair (.int .i64) (.pair .bool (.pair .bool (.pair (.sl (.int .i64)) (.pair (.int .i64) (.pair (.int .i64) (.pair (.int .i64) (.pair (.int .i64) (.pair .str .unit))))))))))), .c (.v (.sl (.int .i64))), .c (.v (.sl .bool))], [.c (.v (.int .i64))]⟩),
    (10, ⟨[.c (.v (.sl (.pair (.int .i64) (.pair .bool (.pair .bool (.pair (.sl (.int .i64)) (.pair (.int .i64) (.pair (.int .i64) (.pair (.int .i64) (.pair (.int .i64) (.pair .str .unit))))))))))), .c (.v (.sl (.pair (.int .i64) (.pair .bool (.pair .bool (.pair (.sl (.int .i64)) (.pair (.int .i64) (.pair (.int .i64) (.pair (.int .i64) (.pair (.int .i64) (.pair .str .unit)))))))))))], [.c (.v .bool)]⟩),
    (11, ⟨[.c (.v (.sl (.int .i64))), .c (.v (.sl (.int .i64)))], [.c (.v .bool)]⟩),
    (12, ⟨[.c (.v (.sl .bool)), .c (.v (.sl .bool))], [.c (.v .bool)]⟩),
    (13, ⟨[.agg [.v (.int .i64), .v .bool, .v .bool, .v (.sl (.int .i64)), .v (.int .i64), .v (.int .i64), .v (.int .i64), .v (.int .i64), .v .str], .c (.v (.int .i64))], [.c (.v (.int .i64))]⟩),
    (14, ⟨[.c (.v (.sl (.pair (.int .i64) (.pair .bool (.pair .bool (.pair (.sl (.int .i64)) (.pair (.int .i64) (.pair (.int .i64) (.pair (.int .i64) (.pair (.int .i64) (.pair .str .unit)))))))))))], [.c (.v .bool)]⟩),
    (15, ⟨[.c (.v (.sl (.int .i64))), .c (.v (.sl .bool)), .c (.v (.int .i64))], [.c (.v .bool)]⟩),
    (16, ⟨[.c (.v (.sl (.pair (.int .i64) (.pair .bool (.pair .bool (.pair (.sl (.int .i64)) (.pair (.int .i64) (.pair (.int .i64) (.pair (.int .i64) (.pair (.int .i64) (.pair .str .unit))))))))))), .c (.v (.sl (.pair (.int .i64) (.pair .bool (.pair .bool (.pair (.sl (.int .i64)) (.pair (.int .i64) (.pair (.int .i64) (.pair (.int .i64) (.pair (.int .i64) (.pair .str .unit))))))))))), .c (.v (.sl (.int .i64))), .c (.v (.sl .bool))], [.c (.v (.int .i64))]⟩),
    (17, ⟨[.agg [.v (.int .i64), .v .bool, .v .bool, .v (.sl (.int .i64)), .v (.int .i64), .v (.int .i64), .v (.int .i64), .v (.int .i64), .v .str]], [.agg [.v (.int .i64), .v .bool, .v .bool, .v (.sl (.int .i64)), .v (.int .i64), .v (.int .i64), .v (.int .i64), .v (.int .i64), .v .str]]⟩),
    (18, ⟨[.agg [.v (.int .i64), .v .bool, .v .bool, .v (.sl (.int .i64)), .v (.int .i64), .v (.int .i64), .v (.int .i64), .v (.int .i64), .v .str]], [.c (.v .bool)]⟩),
    (19, ⟨[.agg [.v (.int .i64), .v .bool, .v .bool, .v (.sl (.int .i64)), .v (.int .i64), .v (.int .i64), .v (.int .i64), .v (.int .i64), .v .str]], [.c (.v .bool)]⟩),
    (22, ⟨[.c (.v (.int .i64)), .c (.v (.ref (.sl (.pair (.int .i64) (.pair .bool (.pair .bool (.pair (.sl (.int .i64)) (.pair (.int .i64) (.pair (.int .i64) (.pair (.int .i64) (.pair (.int .i64) (.pair .str .unit))))))))))))], [.c (.v .bool)]⟩),
    (23, ⟨[.c (.v (.int .i64)), .c (.v (.int .i64)), .c (.v (.int .i64))], [.c (.v .bool)]⟩),
    (24, ⟨[.c (.v (.sl (.pair (.int .i64) (.pair .bool (.pair .bool (.pair (.sl (.int .i64)) (.pair (.int .i64) (.pair (.int .i64) (.pair (.int .i64) (.pair (.int .i64) (.pair .str .unit))))))))))), .c (.v (.sl (.pair (.int .i64) (.pair .bool (.pair .bool (.pair (.sl (.int .i64)) (.pair (.int .i64) (.pair (.int .i64) (.pair (.int .i64) (.pair (.int .i64) (.pair .str .unit))))))))))), .c (.v (.sl (.int .i64))), .c (.v (.sl .bool))], [.c (.v (.int .i64))]⟩),
    (25, ⟨[.agg [.v (.int .i64), .v .bool, .v .bool, .v (.sl (.int .i64)), .v (.int .i64), .v (.int .i64), .v (.int .i64), .v (.int .i64), .v .str], .agg [.v (.int .i64), .v .bool, .v .bool, .v (.sl (.int .i64)), .v (.int .i64), .v (.int .i64), .v (.int .i64), .v (.int .i64), .v .str]], [.c (.v .bool)]⟩),
    (26, ⟨[.agg [.v .bool, .v (.sl (.int .i64)), .v (.int .i64)], .c (.v (.int .i64))], [.c (.v (.int .i64))]⟩),
    (27, ⟨[.agg [.v (.int .i64), .v .bool, .v .bool, .v (.sl (.int .i64)), .v (.int .i64), .v (.int .i64), .v (.int .i64), .v (.int .i64), .v .str]], [.c (.v .bool)]⟩),
    (28, ⟨[.c (.v (.int .i64)), .c (.v (.int .i64)), .c (.v (.int .i64))], [.c (.v .bool)]⟩),
    (29, ⟨[.agg [.v (.int .i64), .v .bool, .v .bool, .v (.sl (.int .i64)), .v (.int .i64), .v (.int .i64), .v (.int .i64), .v (.int .i64), .v .str], .agg [.v (.int .i64), .v .bool, .v .bool, .v (.sl (.int .i64)), .v (.int .i64), .v (.int .i64), .v (.int .i64), .v (.int .i64), .v .str]], [.c (.v (.int .i64))]⟩),
    (30, ⟨[.agg [.v .bool, .v (.sl (.int .i64)), .v (.int .i64)]], [.agg [.v .bool, .v (.sl (.int .i64)), .v (.int .i64)]]⟩),
    (31, ⟨[.agg [.v (.int .i64), .v (.int .i64)]], [.agg [.v (.int .i64), .v (.int .i64)]]⟩),
    (32, ⟨[.agg [.v .bool, .v (.sl (.int .i64)), .v (.int .i64)]], [.c (.v .bool)]⟩),
    (33, ⟨[.c (.v (.int .i64))], [.c (.v .bool)]⟩),
    (34, ⟨[.agg [.v (.int .i64), .v (.int .i64)]], [.c (.v .bool)]⟩),
    (35, ⟨[.agg [.v .bool, .v (.sl (.int .i64)), .v (.int .i64)]], [.c (.v .bool)]⟩),
    (38, ⟨[.agg [.v (.int .i64), .v .bool, .v .bool, .v (.sl (.int .i64)), .v (.int .i64), .v (.int .i64), .v (.int .i64), .v (.int .i64), .v .str], .agg [.v (.int .i64), .v .bool, .v .bool, .v (.sl (.int .i64)), .v (.int .i64), .v (.int .i64), .v (.int .i64), .v (.int .i64), .v .str]], [.c (.v (.int .i64))]⟩),
    (39, ⟨[.agg [.v .bool, .v (.sl (.int .i64)), .v (.int .i64)], .agg [.v .bool, .v (.sl (.int .i64)), .v (.int .i64)]], [.c (.v .bool)]⟩),
    (40, ⟨[.agg [.v (.int .i64), .v (.int .i64)], .agg [.v (.int .i64), .v (.int .i64)]], [.c (.v .bool)]⟩),
    (41, ⟨[.agg [.v .bool, .v (.sl (.int .i64))], .c (.v (.int .i64))], [.c (.v (.int .i64))]⟩),
    (42, ⟨[.agg [.v (.int .i64), .v .bool, .v .bool, .v (.sl (.int .i64)), .v (.int .i64), .v (.int .i64), .v (.int .i64), .v (.int .i64), .v .str]], [.c (.v .bool)]⟩),
    (43, ⟨[.agg [.v .bool, .v (.sl (.int .i64)), .v (.int .i64)]], [.c (.v .bool)]⟩),
    (44, ⟨[.c (.v (.int .i64))], [.c (.v .bool)]⟩),
    (45, ⟨[.agg [.v (.int .i64), .v (.int .i64)]], [.c (.v .bool)]⟩),
    (46, ⟨[.c (.v .str)], [.c (.v .bool)]⟩),
    (47, ⟨[.c (.v (.int .i64)), .c (.v (.int .i64))], [.c (.v (.int .i64))]⟩),
    (48, ⟨[.agg [.v (.int .i64), .v .bool, .v .bool, .v (.sl (.int .i64)), .v (.int .i64), .v (.int .i64), .v (.int .i64), .v (.int .i64), .v .str], .agg [.v (.int .i64), .v .bool, .v .bool, .v (.sl (.int .i64)), .v (.int .i64), .v (.int .i64), .v (.int .i64), .v (.int .i64), .v .str]], [.c (.v (.int .i64))]⟩),
    (49, ⟨[.agg [.v .bool, .v (.sl (.int .i64))]], [.agg [.v .bool, .v (.sl (.int .i64))]]⟩),
    (50, ⟨[.agg [.v .bool, .v (.sl (.int .i64))]], [.c (.v .bool)]⟩),
    (51, ⟨[.c (.v (.sl (.int .i64)))], [.c (.v (.int .i64))]⟩),
    (52, ⟨[.c (.v (.int .i64)), .c (.v (.int .i64))], [.c (.v (.int .i64))]⟩),
    (53, ⟨[.agg [.v (.int .i64), .v .bool, .v .bool, .v (.sl (.int .i64)), .v (.int .i64), .v (.int .i64), .v (.int .i64), .v (.int .i64), .v .str], .agg [.v (.int .i64), .v .bool, .v .bool, .v (.sl (.int .i64)), .v (.int .i64), .v (.int .i64), .v (.int .i64), .v (.int .i64), .v .str]], [.c (.v (.int .i64))]⟩),
    (54, ⟨[.agg [.v .bool, .v (.sl (.int .i64))], .agg [.v .bool, .v (.sl (.int .i64))]], [.c (.v .bool)]⟩),
    (55, ⟨[.c (.v (.sl (.int .i64))), .c (.v (.int .i64))], [.c (.v (.int .i64))]⟩),
    (56, ⟨[.agg [.v .bool, .v (.sl (.int .i64)), .v (.int .i64)]], [.c (.v .bool)]⟩),
    (57, ⟨[.agg [.v .bool, .v (.sl (.int .i64))]], [.c (.v .bool)]⟩),
    (58, ⟨[.c (.v (.sl (.int .i64)))], [.c (.v (.int .i64))]⟩),
    (59, ⟨[.c (.v .bool)], [.c (.v (.int .i64))]⟩),
    (60, ⟨[.agg [.v .bool, .v (.sl (.int .i64)), .v (.int .i64)], .agg [.v .bool, .v (.sl (.int .i64)), .v (.int .i64)]], [.c (.v (.int .i64))]⟩),
    (61, ⟨[.c (.v .str), .c (.v .str)], [.c (.v (.int .i64))]⟩),
    (62, ⟨[.c (.v (.int .i64))], [.c (.v .bool)]⟩),
    (63, ⟨[.c (.v (.sl (.int .i64)))], [.c (.v .str)]⟩),
    (64, ⟨[.c (.v (.int .i64))], [.c (.v .bool)]⟩),
    (65, ⟨[.c (.v .bool)], [.c (.v (.int .i64))]⟩),
    (66, ⟨[.agg [.v .bool, .v (.sl (.int .i64)), .v (.int .i64)], .agg [.v .bool, .v (.sl (.int .i64)), .v (.int .i64)]], [.c (.v (.int .i64))]⟩),
    (67, ⟨[.c (.v (.sl (.int .i64)))], [.c (.v (.int .i64))]⟩),
    (68, ⟨[.c (.v .str), .c (.v .str)], [.c (.v (.int .i64))]⟩),
    (69, ⟨[.c (.v (.sl (.int .i64)))], [.c (.v .str)]⟩),
    (70, ⟨[.c (.v (.int .i64)), .c (.v (.int .i64))], [.c (.v (.int .i64))]⟩),
    (71, ⟨[.agg [.v .bool, .v (.sl (.int .i64)), .v (.int .i64)], .c (.v (.int .i64))], [.c (.v (.sl (.int .i64)))]⟩),
    (72, ⟨[.agg [.v .bool, .v (.sl (.int .i64))], .agg [.v .bool, .v (.sl (.int .i64))]], [.c (.v (.int .i64))]⟩),
    (78, ⟨[.agg [.v .bool, .v (.sl (.int .i64)), .v (.int .i64)], .c (.v (.int .i64))], [.agg [.v .bool, .v (.sl (.int .i64))]]⟩),
    (79, ⟨[.agg [.v .bool, .v (.sl (.int .i64))], .agg [.v .bool, .v (.sl (.int .i64))]], [.agg [.v .bool, .v (.sl (.int .i64))]]⟩),
    (80, ⟨[.agg [.v .bool, .v (.sl (.int .i64))]], [.agg [.v .bool, .v (.sl (.int .i64))]]⟩),
    (81, ⟨[.agg [.v .bool, .v (.sl (.int .i64))]], [.c (.v (.int .i64))]⟩),
    (83, ⟨[.c (.v (.int .i64))], [.c (.v .str)]⟩),
    (84, ⟨[.c (.v (.int .i64)), .c (.v (.int .i64))], [.c (.v .str)]⟩),
    (85, ⟨[.c (.v (.sl (.int .i64))), .c (.v (.sl (.int .i64)))], [.c (.v (.sl (.int .i64)))]⟩),
    (86, ⟨[.c (.v (.int .i64))], [.c (.v (.sl (.int .i64)))]⟩),
    (87, ⟨[.c (.v (.sl (.int .i64))), .c (.v (.sl (.int .i64)))], [.c (.v (.int .i64))]⟩),
    (95, ⟨[.agg [.v .bool, .v (.sl (.int .i64))]], [.agg [.v .bool, .v (.sl (.int .i64))]]⟩),
    (96, ⟨[.c (.v (.sl (.int .i64))), .c (.v (.sl (.int .i64)))], [.c (.v (.sl (.int .i64)))]⟩),
    (97, ⟨[.c (.v (.int .i64))], [.c (.v (.sl (.int .i64)))]⟩),
    (98, ⟨[.c (.v (.sl (.int .i64))), .c (.v (.sl (.int .i64)))], [.c (.v (.sl (.int .i64)))]⟩),
    (99, ⟨[.c (.v (.sl (.int .i64))), .c (.v (.sl (.int .i64)))], [.c (.v (.int .i64))]⟩),
    (100, ⟨[.c (.v (.sl (.int .i64))), .c (.v (.sl (.int .i64)))], [.c (.v (.sl (.int .i64)))]⟩),
    (102, ⟨[.c (.v (.sl (.int .i64))), .c (.v (.int .i64))], [.c (.v (.int .i64))]⟩),
    (103, ⟨[.c (.v (.sl (.int .i64)))], [.c (.v (.sl (.int .i64)))]⟩),
    (110, ⟨[.c (.v (.sl (.int .i64)))], [.c (.v (.sl (.int .i64)))]⟩),
    (111, ⟨[.c (.v (.sl (.int .i64)))], [.c (.o (.int .i64) 3 true)]⟩),
    (19020, ⟨[.c (.v (.sl (.pair (.int .i64) (.pair .bool (.pair .bool (.pair (.sl (.int .i64)) (.pair (.int .i64) (.pair (.int .i64) (.pair (.int .i64) (.pair (.int .i64) (.pair .str .unit))))))))))), .clo 18 []], [.c (.v .bool)]⟩),
    (19036, ⟨[.c (.v (.sl (.pair (.int .i64) (.pair .bool (.pair .bool (.pair (.sl (.int .i64)) (.pair (.int .i64) (.pair (.int .i64) (.pair (.int .i64) (.pair (.int .i64) (.pair .str .unit))))))))))), .clo 18 []], [.c (.v (.int .i64))]⟩),
    (23021, ⟨[.c (.v (.sl (.int .i64))), .clo 22 [.v (.ref (.sl (.pair (.int .i64) (.pair .bool (.pair .bool (.pair (.sl (.int .i64)) (.pair (.int .i64) (.pair (.int .i64) (.pair (.int .i64) (.pair (.int .i64) (.pair .str .unit)))))))))))]], [.c (.v .bool)]⟩),
    (23037, ⟨[.c (.v (.sl (.int .i64))), .clo 22 [.v (.ref (.sl (.pair (.int .i64) (.pair .bool (.pair .bool (.pair (.sl (.int .i64)) (.pair (.int .i64) (.pair (.int .i64) (.pair (.int .i64) (.pair (.int .i64) (.pair .str .unit)))))))))))]], [.c (.v (.int .i64))]⟩),
    (63021, ⟨[.c (.v (.sl (.int .i64))), .clo 62 []], [.c (.v .bool)]⟩),
    (63037, ⟨[.c (.v (.sl (.int .i64))), .clo 62 []], [.c (.v (.int .i64))]⟩)]
  cut := [(4, [(5, [(0, .c (.v (.sl (.pair (.int .i64) (.pair .bool (.pair .bool (.pair (.sl (.int .i64)) (.pair (.int .i64) (.pair (.int .i64) (.pair (.int .i64) (.pair (.int .i64) (.pair .str .unit)))))))))))), (1, .c (.v (.int .i64))), (5, .c (.v (.int .i64)))])]),
    (6, [(3, [(0, .c (.v (.sl (.pair (.int .i64) (.pair .bool (.pair .bool (.pair (.sl (.int .i64)) (.pair (.int .i64) (.pair (.int .i64) (.pair (.int .i64) (.pair (.int .i64) (.pair .str .unit)))))))))))), (3, .c (.o (.pair (.int .i64) (.pair .bool (.pair .bool (.pair (.sl (.int .i64)) (.pair (.int .i64) (.pair (.int .i64) (.pair (.int .i64) (.pair (.int .i64) (.pair .str .unit))))))))) 51 true)), (4, .c (.v (.int .i64)))])]),
    (7, [(3, [(0, .c (.v (.sl (.int .i64)))), (3, .c (.o (.int .i64) 3 true)), (4, .c (.v (.int .i64)))])]),
    (8, [(3, [(0, .c (.v (.sl .bool))), (3, .c (.o .bool 4 true)), (4, .c (.v (.int .i64)))])]),
    (10, [(4, [(0, .c (.v (.sl (.pair (.int .i64) (.pair .bool (.pair .bool (.pair (.sl (.int .i64)) (.pair (.int .i64) (.pair (.int .i64) (.pair (.int .i64) (.pair (.int .i64) (.pair .str .unit)))))))))))), (1, .c (.v (.sl (.pair (.int .i64) (.pair .bool (.pair .bool (.pair (.sl (.int .i64)) (.pair (.int .i64) (.pair (.int .i64) (.pair (.int .i64) (.pair (.int .i64) (.pair .str .unit)))))))))))), (5, .c (.v (.int .i64)))])]),
    (11, [(4, [(0, .c (.v (.sl (.int .i64)))), (1, .c (.v (.sl (.int .i64)))), (5, .c (.v (.int .i64)))])]),
    (12, [(4, [(0, .c (.v (.sl .bool))), (1, .c (.v (.sl .bool))), (5, .c (.v (.int .i64)))])]),
    (14, [(2, [(0, .c (.v (.sl (.pair (.int .i64) (.pair .bool (.pair .bool (.pair (.sl (.int .i64)) (.pair (.int .i64) (.pair (.int .i64) (.pair (.int .i64) (.pair (.int .i64) (.pair .str .unit)))))))))))), (3, .c (.v (.int .i64)))])]),
    (15, [(2, [(0, .c (.v (.sl (.int .i64)))), (1, .c (.v (.sl .bool))), (2, .c (.v (.int .i64))), (7, .c (.v (.int .i64)))])]),
    (16, [(2, [(0, .c (.v (.sl (.pair (.int .i64) (.pair .bool (.pair .bool (.pair (.sl (.int .i64)) (.pair (.int .i64) (.pair (.int .i64) (.pair (.int .i64) (.pair (.int .i64) (.pair .str .unit)))))))))))), (1, .c (.v (.sl (.pair (.int .i64) (.pair .bool (.pair .bool (.pair (.sl (.int .i64)) (.pair (.int .i64) (.pair (.int .i64) (.pair (.int .i64) (.pair (.int .i64) (.pair .str .unit)))))))))))), (2, .c (.v (.sl (.int .i64)))), (3, .c (.v (.sl .bool))), (9, .c (.v (.int .i64)))])]),
    (19, [(17, [(1, .box [.v (.int .i64), .v .bool, .v .bool, .v (.sl (.int .i64)), .v (.int .i64), .v (.int .i64), .v (.int .i64), .v (.int .i64), .v .str]), (3, .box [.v (.int .i64), .v .bool, .v .bool, .v (.sl (.int .i64)), .v (.int .i64), .v (.int .i64), .v (.int .i64), .v (.int .i64), .v .str]), (4, .c (.v .bool)), (43, .c (.v (.int .i64))), (44, .c (.v (.int .i64)))]), (21, [(3, .box [.v (.int .i64), .v .bool, .v .bool, .v (.sl (.int .i64)), .v (.int .i64), .v (.int .i64), .v (.int .i64), .v (.int .i64), .v .str]), (4, .c (.v .bool))])]),
    (24, [(2, [(0, .c (.v (.sl (.pair (.int .i64) (.pair .bool (.pair .bool (.pair (.sl (.int .i64)) (.pair (.int .i64) (.pair (.int .i64) (.pair (.int .i64) (.pair (.int .i64) (.pair .str .unit)))))))))))), (1, .c (.v (.sl (.pair (.int .i64) (.pair .bool (.pair .bool (.pair (.sl (.int .i64)) (.pair (.int .i64) (.pair (.int .i64) (.pair (.int .i64) (.pair (.int .i64) (.pair .str .unit)))))))))))), (3, .c (.v (.sl .bool))), (12, .c (.v (.sl (.int .i64)))), (13, .c (.v (.int .i64))), (14, .c (.v (.int .i64)))])]),
    (46, [(2, [(0, .c (.v .str)), (3, .c (.v (.int .i64)))])]),
    (57, [(4, [(1, .box [.v .bool, .v (.sl (.int .i64))]), (3, .c (.v (.int .i64)))])]),
    (67, [(3, [(3, .c (.v (.int .i64))), (6, .c (.v (.sl (.int .i64)))), (7, .c (.v (.int .i64))), (8, .c (.v (.int .i64)))])]),
    (69, [(5, [(0, .c (.v (.sl (.int .i64)))), (3, .c (.v .str)), (4, .c (.v (.int .i64)))])]),
    (84, [(2, [(1, .c (.v (.int .i64))), (5, .c (.v .str))])]),
    (85, [(3, [(0, .c (.v (.sl (.int .i64)))), (1, .c (.v (.sl (.int .i64)))), (5, .c (.o (.int .i64) 3 true)), (6, .c (.v (.int .i64)))]), (7, [(0, .c (.v (.sl (.int .i64)))), (1, .c (.v (.sl (.int .i64)))), (5, .c (.o (.int .i64) 3 true)), (6, .c (.v (.int .i64))), (7, .c (.v (.int .i64))), (8, .c (.v (.int .i64)))])]),
    (86, [(2, [(0, .c (.v (.int .i64))), (3, .c (.o (.int .i64) 3 true))]), (6, [(0, .c (.v (.int .i64))), (3, .c (.o (.int .i64) 3 true)), (4, .c (.v (.int .i64)))])]),
    (87, [(6, [(0, .c (.v (.sl (.int .i64)))), (1, .c (.v (.sl (.int .i64)))), (5, .c (.v (.int .i64)))])]),
    (96, [(3, [(1, .c (.v (.sl (.int .i64)))), (5, .c (.o (.int .i64) 3 true)), (19, .c (.v (.sl (.int .i64)))), (20, .c (.v (.int .i64))), (21, .c (.v (.int .i64)))]), (7, [(1, .c (.v (.sl (.int .i64)))), (5, .c (.o (.int .i64) 3 true)), (6, .c (.v (.int .i64))), (7, .c (.v (.int .i64))), (8, .c (.v (.int .i64))), (19, .c (.v (.sl (.int .i64)))), (20, .c (.v (.int .i64))), (21, .c (.v (.int .i64))), (26, .c (.v (.sl (.int .i64)))), (27, .c (.v (.int .i64))), (28, .c (.v (.int .i64)))])]),
    (97, [(3, [(3, .c (.v (.sl (.int .i64)))), (5, .c (.v (.int .i64))), (6, .c (.v (.int .i64)))])]),
    (98, [(4, [(5, .c (.o (.int .i64) 3 true)), (19, .c (.v (.sl (.int .i64)))), (20, .c (.v (.int .i64))), (21, .c (.v (.int .i64)))]), (9, [(5, .c (.o (.int .i64) 3 true)), (36, .c (.v (.int .i64))), (37, .c (.v (.int .i64)))])]),
    (99, [(4, [(0, .c (.v (.sl (.int .i64)))), (1, .c (.v (.sl (.int .i64)))), (5, .c (.v (.int .i64)))])]),
    (100, [(3, [(5, .c (.o (.int .i64) 3 true)), (11, .c (.v (.sl (.int .i64)))), (12, .c (.v (.int .i64))), (13, .c (.v (.int .i64)))]), (8, [(5, .c (.o (.int .i64) 3 true)), (27, .c (.v (.int .i64))), (28, .c (.v (.int .i64)))]), (13, [(5, .c (.o (.int .i64) 3 true)), (27, .c (.v (.int .i64))), (28, .c (.v (.int .i64)))])]),
    (103, [(2, [(0, .c (.v (.sl (.int .i64)))), (3, .c (.v (.int .i64)))])]),
    (110, [(1, [(0, .c (.v (.sl (.int .i64))))])]),
    (19036, [(2, [(0, .c (.v (.sl (.pair (.int .i64) (.pair .bool (.pair .bool (.pair (.sl (.int .i64)) (.pair (.int .i64) (.pair (.int .i64) (.pair (.int .i64) (.pair (.int .i64) (.pair .str .unit)))))))))))), (1, .clo 18 []), (7, .c (.v (.int .i64))), (8, .c (.v (.int .i64)))])]),
    (23037, [(2, [(0, .c (.v (.sl (.int .i64)))), (1, .clo 22 [.v (.ref (.sl (.pair (.int .i64) (.pair .bool (.pair .bool (.pair (.sl (.int .i64)) (.pair (.int .i64) (.pair (.int .i64) (.pair (.int .i64) (.pair (.int .i64) (.pair .str .unit)))))))))))]), (7, .c (.v (.int .i64))), (8, .c (.v (.int .i64)))])]),
    (63037, [(2, [(0, .c (.v (.sl (.int .i64)))), (1, .clo 62 []), (7, .c (.v (.int .i64))), (8, .c (.v (.int .i64)))])])]
  eqs := [(49, [.int .i64, .int .i64])]
theorem tabs_ok : tabs.ok Tryz.prog = true := by kernel_rfl
noncomputable def compareR (x : ByteArray × ByteArray × Unit) : Option ((Int × Unit) × (Unit × Unit × Unit)) := some ((Lib.compareBytes x.1.data.toList x.2.1.data.toList, ()), ((), (), ()))
noncomputable def extR : (f : Nat) → Option ((specOf tabs.spec f).In → Option (specOf tabs.spec f).Out) := fun f => match f with
  | 63 => some textR
  | 68 => some compareR
  | _ => none
/-- the variable that holds strconv's powers of ten, and its cells -/
def powG : Nat := 1
def powCells : Array Value := (Lib.pow10Tab.map fun z => Value.int .u64 z).toArray
def objsR : Nat → Option (Array Value → Prop) := fun g => if g = powG then some (fun cs => cs = powCells) else none
noncomputable def cx : Go.Rf.Cx := tabs.cx Tryz.prog extR (fun _ => none) objsR
theorem good : Go.Rf.Good cx := Go.Rf.Tabs.good tabs_ok
end Go.Proofs.YthbibdpbfgoghaaGreatDoor.R
end

section
/-! Rf: the functions, and what each answers. -/
set_option autoImplicit false
set_option linter.unusedVariables false
namespace Go.Proofs.YthbibdpbfgoghaaGreatDoor.R
open Go.Rf
/-! loop.example/jetton/laws.FnExactRowOrder -/
noncomputable def F3 (k : Nat) (a0 : List (Int × Bool × Bool × (List Int) × Int × Int × Int × Int × ByteArray × Unit)) (a1 : List (Int × Bool × Bool × (List Int) × Int × Int × Int × Int × ByteArray × Unit)) (a2 : List Int) (a3 : List Bool) : Option ((Bool × Unit) × (Unit × Unit × Unit × Unit × Unit)) := callF cx k 3 (a0, a1, a2, a3, ())
/-! loop.example/jetton/laws.szValueS -/
noncomputable def F4 (k : Nat) (a0 : List (Int × Bool × Bool × (List Int) × Int × Int × Int × Int × ByteArray × Unit)) (a1 : Int) : Option ((Int × Unit) × (Unit × Unit × Unit)) := callF cx k 4 (a0, a1, ())
noncomputable def F4c5 (k : Nat) (x0 : List (Int × Bool × Bool × (List Int) × Int × Int × Int × Int × ByteArray × Unit)) (x1 : Int) (x5 : Int) : Option ((Int × Unit) × (Unit × Unit × Unit)) := cutF cx 4 5 Tryz.f4 k (x0, x1, x5, ())
/-! loop.example/jetton/spec.RowOrder -/
noncomputable def F5 (k : Nat) (a0 : List (Int × Bool × Bool × (List Int) × Int × Int × Int × Int × ByteArray × Unit)) (a1 : List (Int × Bool × Bool × (List Int) × Int × Int × Int × Int × ByteArray × Unit)) (a2 : List Int) (a3 : List Bool) : Option ((Int × Unit) × (Unit × Unit × Unit × Unit × Unit)) := callF cx k 5 (a0, a1, a2, a3, ())
/-! loop.example/jetton/laws.toValueS -/
noncomputable def F6 (k : Nat) (a0 : List (Int × Bool × Bool × (List Int) × Int × Int × Int × Int × ByteArray × Unit)) : Option (((List (Int × Bool × Bool × (List Int) × Int × Int × Int × Int × ByteArray × Unit)) × Unit) × (Unit × Unit)) := callF cx k 6 (a0, ())
noncomputable def F6c3 (k : Nat) (x0 : List (Int × Bool × Bool × (List Int) × Int × Int × Int × Int × ByteArray × Unit)) (x3 : List (Int × Bool × Bool × (List Int) × Int × Int × Int × Int × ByteArray × Unit)) (x4 : Int) : Option (((List (Int × Bool × Bool × (List Int) × Int × Int × Int × Int × ByteArray × Unit)) × Unit) × (Unit × Unit)) := cutF cx 6 3 Tryz.f6 k (x0, x3, x4, ())
/-! loop.example/jetton/laws.toIntS -/
noncomputable def F7 (k : Nat) (a0 : List Int) : Option (((List Int) × Unit) × (Unit × Unit)) := callF cx k 7 (a0, ())
noncomputable def F7c3 (k : Nat) (x0 : List Int) (x3 : List Int) (x4 : Int) : Option (((List Int) × Unit) × (Unit × Unit)) := cutF cx 7 3 Tryz.f7 k (x0, x3, x4, ())
/-! loop.example/jetton/laws.toBoolS -/
noncomputable def F8 (k : Nat) (a0 : List Bool) : Option (((List Bool) × Unit) × (Unit × Unit)) := callF cx k 8 (a0, ())
noncomputable def F8c3 (k : Nat) (x0 : List Bool) (x3 : List Bool) (x4 : Int) : Option (((List Bool) × Unit) × (Unit × Unit)) := cutF cx 8 3 Tryz.f8 k (x0, x3, x4, ())
/-! loop.example/jetton/impl.RowOrder -/
noncomputable def F9 (k : Nat) (a0 : List (Int × Bool × Bool × (List Int) × Int × Int × Int × Int × ByteArray × Unit)) (a1 : List (Int × Bool × Bool × (List Int) × Int × Int × Int × Int × ByteArray × Unit)) (a2 : List Int) (a3 : List Bool) : Option ((Int × Unit) × (Unit × Unit × Unit × Unit × Unit)) := callF cx k 9 (a0, a1, a2, a3, ())
/-! loop.example/jetton/laws.eqValueS -/
noncomputable def F10 (k : Nat) (a0 : List (Int × Bool × Bool × (List Int) × Int × Int × Int × Int × ByteArray × Unit)) (a1 : List (Int × Bool × Bool × (List Int) × Int × Int × Int × Int × ByteArray × Unit)) : Option ((Bool × Unit) × (Unit × Unit × Unit)) := callF cx k 10 (a0, a1, ())
noncomputable def F10c4 (k : Nat) (x0 : List (Int × Bool × Bool × (List Int) × Int × Int × Int × Int × ByteArray × Unit)) (x1 : List (Int × Bool × Bool × (List Int) × Int × Int × Int × Int × ByteArray × Unit)) (x5 : Int) : Option ((Bool × Unit) × (Unit × Unit × Unit)) := cutF cx 10 4 Tryz.f10 k (x0, x1, x5, ())
/-! loop.example/jetton/laws.eqIntS -/
noncomputable def F11 (k : Nat) (a0 : List Int) (a1 : List Int) : Option ((Bool × Unit) × (Unit × Unit × Unit)) := callF cx k 11 (a0, a1, ())
noncomputable def F11c4 (k : Nat) (x0 : List Int) (x1 : List Int) (x5 : Int) : Option ((Bool × Unit) × (Unit × Unit × Unit)) := cutF cx 11 4 Tryz.f11 k (x0, x1, x5, ())
/-! loop.example/jetton/laws.eqBoolS -/
noncomputable def F12 (k : Nat) (a0 : List Bool) (a1 : List Bool) : Option ((Bool × Unit) × (Unit × Unit × Unit)) := callF cx k 12 (a0, a1, ())
noncomputable def F12c4 (k : Nat) (x0 : List Bool) (x1 : List Bool) (x5 : Int) : Option ((Bool × Unit) × (Unit × Unit × Unit)) := cutF cx 12 4 Tryz.f12 k (x0, x1, x5, ())
/-! loop.example/jetton/laws.szValue -/
noncomputable def F13 (k : Nat) (a0_0 : Int) (a0_1 : Bool) (a0_2 : Bool) (a0_3 : List Int) (a0_4 : Int) (a0_5 : Int) (a0_6 : Int) (a0_7 : Int) (a0_8 : ByteArray) (a1 : Int) : Option ((Int × Unit) × ((Unit × Unit × Unit × Unit × Unit × Unit × Unit × Unit × Unit × Unit) × Unit × Unit)) := callF cx k 13 ((a0_0, a0_1, a0_2, a0_3, a0_4, a0_5, a0_6, a0_7, a0_8, ()), a1, ())
/-! loop.example/jetton/spec.l5RowOk -/
noncomputable def F14 (k : Nat) (a0 : List (Int × Bool × Bool × (List Int) × Int × Int × Int × Int × ByteArray × Unit)) : Option ((Bool × Unit) × (Unit × Unit)) := callF cx k 14 (a0, ())
noncomputable def F14c2 (k : Nat) (x0 : List (Int × Bool × Bool × (List Int) × Int × Int × Int × Int × ByteArray × Unit)) (x3 : Int) : Option ((Bool × Unit) × (Unit × Unit)) := cutF cx 14 2 Tryz.f14 k (x0, x3, ())
/-! loop.example/jetton/spec.l6ColsOk -/
noncomputable def F15 (k : Nat) (a0 : List Int) (a1 : List Bool) (a2 : Int) : Option ((Bool × Unit) × (Unit × Unit × Unit × Unit)) := callF cx k 15 (a0, a1, a2, ())
noncomputable def F15c2 (k : Nat) (x0 : List Int) (x1 : List Bool) (x2 : Int) (x7 : Int) : Option ((Bool × Unit) × (Unit × Unit × Unit × Unit)) := cutF cx 15 2 Tryz.f15 k (x0, x1, x2, x7, ())
/-! loop.example/jetton/spec.l6Order -/
noncomputable def F16 (k : Nat) (a0 : List (Int × Bool × Bool × (List Int) × Int × Int × Int × Int × ByteArray × Unit)) (a1 : List (Int × Bool × Bool × (List Int) × Int × Int × Int × Int × ByteArray × Unit)) (a2 : List Int) (a3 : List Bool) : Option ((Int × Unit) × (Unit × Unit × Unit × Unit × Unit)) := callF cx k 16 (a0, a1, a2, a3, ())
noncomputable def F16c2 (k : Nat) (x0 : List (Int × Bool × Bool × (List Int) × Int × Int × Int × Int × ByteArray × Unit)) (x1 : List (Int × Bool × Bool × (List Int) × Int × Int × Int × Int × ByteArray × Unit)) (x2 : List Int) (x3 : List Bool) (x9 : Int) : Option ((Int × Unit) × (Unit × Unit × Unit × Unit × Unit)) := cutF cx 16 2 Tryz.f16 k (x0, x1, x2, x3, x9, ())
/-! loop.example/jetton/laws.toValue -/
noncomputable def F17 (k : Nat) (a0_0 : Int) (a0_1 : Bool) (a0_2 : Bool) (a0_3 : List Int) (a0_4 : Int) (a0_5 : Int) (a0_6 : Int) (a0_7 : Int) (a0_8 : ByteArray) : Option (((Int × Bool × Bool × (List Int) × Int × Int × Int × Int × ByteArray × Unit) × Unit) × ((Unit × Unit × Unit × Unit × Unit × Unit × Unit × Unit × Unit × Unit) × Unit)) := callF cx k 17 ((a0_0, a0_1, a0_2, a0_3, a0_4, a0_5, a0_6, a0_7, a0_8, ()), ())
/-! loop.example/jetton/impl.RowOrder$1 -/
noncomputable def F18 (k : Nat) (a0_0 : Int) (a0_1 : Bool) (a0_2 : Bool) (a0_3 : List Int) (a0_4 : Int) (a0_5 : Int) (a0_6 : Int) (a0_7 : Int) (a0_8 : ByteArray) : Option ((Bool × Unit) × ((Unit × Unit × Unit × Unit × Unit × Unit × Unit × Unit × Unit × Unit) × Unit)) := callF cx k 18 ((a0_0, a0_1, a0_2, a0_3, a0_4, a0_5, a0_6, a0_7, a0_8, ()), ())
/-! loop.example/jetton/impl.ValueOk -/
noncomputable def F19 (k : Nat) (a0_0 : Int) (a0_1 : Bool) (a0_2 : Bool) (a0_3 : List Int) (a0_4 : Int) (a0_5 : Int) (a0_6 : Int) (a0_7 : Int) (a0_8 : ByteArray) : Option ((Bool × Unit) × ((Unit × Unit × Unit × Unit × Unit × Unit × Unit × Unit × Unit × Unit) × Unit)) := callF cx k 19 ((a0_0, a0_1, a0_2, a0_3, a0_4, a0_5, a0_6, a0_7, a0_8, ()), ())
noncomputable def F19c21 (k : Nat) (x3_0 : Int) (x3_1 : Bool) (x3_2 : Bool) (x3_3 : List Int) (x3_4 : Int) (x3_5 : Int) (x3_6 : Int) (x3_7 : Int) (x3_8 : ByteArray) (x4 : Bool) : Option ((Bool × Unit) × ((Unit × Unit × Unit × Unit × Unit × Unit × Unit × Unit × Unit × Unit) × Unit)) := cutF cx 19 21 Tryz.f19 k ((x3_0, x3_1, x3_2, x3_3, x3_4, x3_5, x3_6, x3_7, x3_8, ()), x4, ())
noncomputable def F19c17 (k : Nat) (x1_0 : Int) (x1_1 : Bool) (x1_2 : Bool) (x1_3 : List Int) (x1_4 : Int) (x1_5 : Int) (x1_6 : Int) (x1_7 : Int) (x1_8 : ByteArray) (x3_0 : Int) (x3_1 : Bool) (x3_2 : Bool) (x3_3 : List Int) (x3_4 : Int) (x3_5 : Int) (x3_6 : Int) (x3_7 : Int) (x3_8 : ByteArray) (x4 : Bool) (x43 : Int) (x44 : Int) : Option ((Bool × Unit) × ((Unit × Unit × Unit × Unit × Unit × Unit × Unit × Unit × Unit × Unit) × Unit)) := cutF cx 19 17 Tryz.f19 k ((x1_0, x1_1, x1_2, x1_3, x1_4, x1_5, x1_6, x1_7, x1_8, ()), (x3_0, x3_1, x3_2, x3_3, x3_4, x3_5, x3_6, x3_7, x3_8, ()), x4, x43, x44, ())
/-! loop.example/jetton/impl.RowOrder$2 -/
noncomputable def F22 (k : Nat) (a0 : Int) (a1 : List (Int × Bool × Bool × (List Int) × Int × Int × Int × Int × ByteArray × Unit)) : Option ((Bool × Unit) × (Unit × Unit × Unit)) := callF cx k 22 (a0, a1, ())
/-! loop.example/jetton/impl.in -/
noncomputable def F23 (k : Nat) (a0 : Int) (a1 : Int) (a2 : Int) : Option ((Bool × Unit) × (Unit × Unit × Unit × Unit)) := callF cx k 23 (a0, a1, a2, ())
/-! loop.example/jetton/impl.rowOrder -/
noncomputable def F24 (k : Nat) (a0 : List (Int × Bool × Bool × (List Int) × Int × Int × Int × Int × ByteArray × Unit)) (a1 : List (Int × Bool × Bool × (List Int) × Int × Int × Int × Int × ByteArray × Unit)) (a2 : List Int) (a3 : List Bool) : Option ((Int × Unit) × (Unit × Unit × Unit × Unit × Unit)) := callF cx k 24 (a0, a1, a2, a3, ())
noncomputable def F24c2 (k : Nat) (x0 : List (Int × Bool × Bool × (List Int) × Int × Int × Int × Int × ByteArray × Unit)) (x1 : List (Int × Bool × Bool × (List Int) × Int × Int × Int × Int × ByteArray × Unit)) (x3 : List Bool) (x12 : List Int) (x13 : Int) (x14 : Int) : Option ((Int × Unit) × (Unit × Unit × Unit × Unit × Unit)) := cutF cx 24 2 Tryz.f24 k (x0, x1, x3, x12, x13, x14, ())
/-! loop.example/jetton/laws.eqValue -/
noncomputable def F25 (k : Nat) (a0_0 : Int) (a0_1 : Bool) (a0_2 : Bool) (a0_3 : List Int) (a0_4 : Int) (a0_5 : Int) (a0_6 : Int) (a0_7 : Int) (a0_8 : ByteArray) (a1_0 : Int) (a1_1 : Bool) (a1_2 : Bool) (a1_3 : List Int) (a1_4 : Int) (a1_5 : Int) (a1_6 : Int) (a1_7 : Int) (a1_8 : ByteArray) : Option ((Bool × Unit) × ((Unit × Unit × Unit × Unit × Unit × Unit × Unit × Unit × Unit × Unit) × (Unit × Unit × Unit × Unit × Unit × Unit × Unit × Unit × Unit × Unit) × Unit)) := callF cx k 25 ((a0_0, a0_1, a0_2, a0_3, a0_4, a0_5, a0_6, a0_7, a0_8, ()), (a1_0, a1_1, a1_2, a1_3, a1_4, a1_5, a1_6, a1_7, a1_8, ()), ())
/-! loop.example/jetton/laws.szDec -/
noncomputable def F26 (k : Nat) (a0_0 : Bool) (a0_1 : List Int) (a0_2 : Int) (a1 : Int) : Option ((Int × Unit) × ((Unit × Unit × Unit × Unit) × Unit × Unit)) := callF cx k 26 ((a0_0, a0_1, a0_2, ()), a1, ())
/-! loop.example/jetton/spec.l4Ok -/
noncomputable def F27 (k : Nat) (a0_0 : Int) (a0_1 : Bool) (a0_2 : Bool) (a0_3 : List Int) (a0_4 : Int) (a0_5 : Int) (a0_6 : Int) (a0_7 : Int) (a0_8 : ByteArray) : Option ((Bool × Unit) × ((Unit × Unit × Unit × Unit × Unit × Unit × Unit × Unit × Unit × Unit) × Unit)) := callF cx k 27 ((a0_0, a0_1, a0_2, a0_3, a0_4, a0_5, a0_6, a0_7, a0_8, ()), ())
/-! loop.example/jetton/spec.l1In -/
noncomputable def F28 (k : Nat) (a0 : Int) (a1 : Int) (a2 : Int) : Option ((Bool × Unit) × (Unit × Unit × Unit × Unit)) := callF cx k 28 (a0, a1, a2, ())
/-! loop.example/jetton/spec.l4Order -/
noncomputable def F29 (k : Nat) (a0_0 : Int) (a0_1 : Bool) (a0_2 : Bool) (a0_3 : List Int) (a0_4 : Int) (a0_5 : Int) (a0_6 : Int) (a0_7 : Int) (a0_8 : ByteArray) (a1_0 : Int) (a1_1 : Bool) (a1_2 : Bool) (a1_3 : List Int) (a1_4 : Int) (a1_5 : Int) (a1_6 : Int) (a1_7 : Int) (a1_8 : ByteArray) : Option ((Int × Unit) × ((Unit × Unit × Unit × Unit × Unit × Unit × Unit × Unit × Unit × Unit) × (Unit × Unit × Unit × Unit × Unit × Unit × Unit × Unit × Unit × Unit) × Unit)) := callF cx k 29 ((a0_0, a0_1, a0_2, a0_3, a0_4, a0_5, a0_6, a0_7, a0_8, ()), (a1_0, a1_1, a1_2, a1_3, a1_4, a1_5, a1_6, a1_7, a1_8, ()), ())
/-! loop.example/jetton/laws.toDec -/
noncomputable def F30 (k : Nat) (a0_0 : Bool) (a0_1 : List Int) (a0_2 : Int) : Option (((Bool × (List Int) × Int × Unit) × Unit) × ((Unit × Unit × Unit × Unit) × Unit)) := callF cx k 30 ((a0_0, a0_1, a0_2, ()), ())
/-! loop.example/jetton/laws.toSpan -/
noncomputable def F31 (k : Nat) (a0_0 : Int) (a0_1 : Int) : Option (((Int × Int × Unit) × Unit) × ((Unit × Unit × Unit) × Unit)) := callF cx k 31 ((a0_0, a0_1, ()), ())
/-! loop.example/jetton/impl.DecOk -/
noncomputable def F32 (k : Nat) (a0_0 : Bool) (a0_1 : List Int) (a0_2 : Int) : Option ((Bool × Unit) × ((Unit × Unit × Unit × Unit) × Unit)) := callF cx k 32 ((a0_0, a0_1, a0_2, ()), ())
/-! loop.example/jetton/impl.isDay -/
noncomputable def F33 (k : Nat) (a0 : Int) : Option ((Bool × Unit) × (Unit × Unit)) := callF cx k 33 (a0, ())
/-! loop.example/jetton/impl.SpanOk -/
noncomputable def F34 (k : Nat) (a0_0 : Int) (a0_1 : Int) : Option ((Bool × Unit) × ((Unit × Unit × Unit) × Unit)) := callF cx k 34 ((a0_0, a0_1, ()), ())
/-! (loop.example/jetton/impl.Dec).zero -/
noncomputable def F35 (k : Nat) (a0_0 : Bool) (a0_1 : List Int) (a0_2 : Int) : Option ((Bool × Unit) × ((Unit × Unit × Unit × Unit) × Unit)) := callF cx k 35 ((a0_0, a0_1, a0_2, ()), ())
/-! (loop.example/jetton/impl.Value).order -/
noncomputable def F38 (k : Nat) (a0_0 : Int) (a0_1 : Bool) (a0_2 : Bool) (a0_3 : List Int) (a0_4 : Int) (a0_5 : Int) (a0_6 : Int) (a0_7 : Int) (a0_8 : ByteArray) (a1_0 : Int) (a1_1 : Bool) (a1_2 : Bool) (a1_3 : List Int) (a1_4 : Int) (a1_5 : Int) (a1_6 : Int) (a1_7 : Int) (a1_8 : ByteArray) : Option ((Int × Unit) × ((Unit × Unit × Unit × Unit × Unit × Unit × Unit × Unit × Unit × Unit) × (Unit × Unit × Unit × Unit × Unit × Unit × Unit × Unit × Unit × Unit) × Unit)) := callF cx k 38 ((a0_0, a0_1, a0_2, a0_3, a0_4, a0_5, a0_6, a0_7, a0_8, ()), (a1_0, a1_1, a1_2, a1_3, a1_4, a1_5, a1_6, a1_7, a1_8, ()), ())
/-! loop.example/jetton/laws.eqDec -/
noncomputable def F39 (k : Nat) (a0_0 : Bool) (a0_1 : List Int) (a0_2 : Int) (a1_0 : Bool) (a1_1 : List Int) (a1_2 : Int) : Option ((Bool × Unit) × ((Unit × Unit × Unit × Unit) × (Unit × Unit × Unit × Unit) × Unit)) := callF cx k 39 ((a0_0, a0_1, a0_2, ()), (a1_0, a1_1, a1_2, ()), ())
/-! loop.example/jetton/laws.eqSpan -/
noncomputable def F40 (k : Nat) (a0_0 : Int) (a0_1 : Int) (a1_0 : Int) (a1_1 : Int) : Option ((Bool × Unit) × ((Unit × Unit × Unit) × (Unit × Unit × Unit) × Unit)) := callF cx k 40 ((a0_0, a0_1, ()), (a1_0, a1_1, ()), ())
/-! loop.example/jetton/laws.szBig -/
noncomputable def F41 (k : Nat) (a0_0 : Bool) (a0_1 : List Int) (a1 : Int) : Option ((Int × Unit) × ((Unit × Unit × Unit) × Unit × Unit)) := callF cx k 41 ((a0_0, a0_1, ()), a1, ())
/-! loop.example/jetton/spec.l4Bare -/
noncomputable def F42 (k : Nat) (a0_0 : Int) (a0_1 : Bool) (a0_2 : Bool) (a0_3 : List Int) (a0_4 : Int) (a0_5 : Int) (a0_6 : Int) (a0_7 : Int) (a0_8 : ByteArray) : Option ((Bool × Unit) × ((Unit × Unit × Unit × Unit × Unit × Unit × Unit × Unit × Unit × Unit) × Unit)) := callF cx k 42 ((a0_0, a0_1, a0_2, a0_3, a0_4, a0_5, a0_6, a0_7, a0_8, ()), ())
/-! loop.example/jetton/spec.l2Ok -/
noncomputable def F43 (k : Nat) (a0_0 : Bool) (a0_1 : List Int) (a0_2 : Int) : Option ((Bool × Unit) × ((Unit × Unit × Unit × Unit) × Unit)) := callF cx k 43 ((a0_0, a0_1, a0_2, ()), ())
/-! loop.example/jetton/spec.l3Is -/
noncomputable def F44 (k : Nat) (a0 : Int) : Option ((Bool × Unit) × (Unit × Unit)) := callF cx k 44 (a0, ())
/-! loop.example/jetton/spec.l3SpanOk -/
noncomputable def F45 (k : Nat) (a0_0 : Int) (a0_1 : Int) : Option ((Bool × Unit) × ((Unit × Unit × Unit) × Unit)) := callF cx k 45 ((a0_0, a0_1, ()), ())
/-! loop.example/jetton/spec.l4Text -/
noncomputable def F46 (k : Nat) (a0 : ByteArray) : Option ((Bool × Unit) × (Unit × Unit)) := callF cx k 46 (a0, ())
noncomputable def F46c2 (k : Nat) (x0 : ByteArray) (x3 : Int) : Option ((Bool × Unit) × (Unit × Unit)) := cutF cx 46 2 Tryz.f46 k (x0, x3, ())
/-! loop.example/jetton/spec.l4Int -/
noncomputable def F47 (k : Nat) (a0 : Int) (a1 : Int) : Option ((Int × Unit) × (Unit × Unit × Unit)) := callF cx k 47 (a0, a1, ())
/-! loop.example/jetton/spec.l4Cmp -/
noncomputable def F48 (k : Nat) (a0_0 : Int) (a0_1 : Bool) (a0_2 : Bool) (a0_3 : List Int) (a0_4 : Int) (a0_5 : Int) (a0_6 : Int) (a0_7 : Int) (a0_8 : ByteArray) (a1_0 : Int) (a1_1 : Bool) (a1_2 : Bool) (a1_3 : List Int) (a1_4 : Int) (a1_5 : Int) (a1_6 : Int) (a1_7 : Int) (a1_8 : ByteArray) : Option ((Int × Unit) × ((Unit × Unit × Unit × Unit × Unit × Unit × Unit × Unit × Unit × Unit) × (Unit × Unit × Unit × Unit × Unit × Unit × Unit × Unit × Unit × Unit) × Unit)) := callF cx k 48 ((a0_0, a0_1, a0_2, a0_3, a0_4, a0_5, a0_6, a0_7, a0_8, ()), (a1_0, a1_1, a1_2, a1_3, a1_4, a1_5, a1_6, a1_7, a1_8, ()), ())
/-! loop.example/jetton/laws.toBig -/
noncomputable def F49 (k : Nat) (a0_0 : Bool) (a0_1 : List Int) : Option (((Bool × (List Int) × Unit) × Unit) × ((Unit × Unit × Unit) × Unit)) := callF cx k 49 ((a0_0, a0_1, ()), ())
/-! loop.example/jetton/impl.BigOk -/
noncomputable def F50 (k : Nat) (a0_0 : Bool) (a0_1 : List Int) : Option ((Bool × Unit) × ((Unit × Unit × Unit) × Unit)) := callF cx k 50 ((a0_0, a0_1, ()), ())
/-! (loop.example/jetton/impl.limbs).digits -/
noncomputable def F51 (k : Nat) (a0 : List Int) : Option ((Int × Unit) × (Unit × Unit)) := callF cx k 51 (a0, ())
/-! cmp.Compare[int] -/
noncomputable def F52 (k : Nat) (a0 : Int) (a1 : Int) : Option ((Int × Unit) × (Unit × Unit × Unit)) := callF cx k 52 (a0, a1, ())
/-! (loop.example/jetton/impl.Value).cmp -/
noncomputable def F53 (k : Nat) (a0_0 : Int) (a0_1 : Bool) (a0_2 : Bool) (a0_3 : List Int) (a0_4 : Int) (a0_5 : Int) (a0_6 : Int) (a0_7 : Int) (a0_8 : ByteArray) (a1_0 : Int) (a1_1 : Bool) (a1_2 : Bool) (a1_3 : List Int) (a1_4 : Int) (a1_5 : Int) (a1_6 : Int) (a1_7 : Int) (a1_8 : ByteArray) : Option ((Int × Unit) × ((Unit × Unit × Unit × Unit × Unit × Unit × Unit × Unit × Unit × Unit) × (Unit × Unit × Unit × Unit × Unit × Unit × Unit × Unit × Unit × Unit) × Unit)) := callF cx k 53 ((a0_0, a0_1, a0_2, a0_3, a0_4, a0_5, a0_6, a0_7, a0_8, ()), (a1_0, a1_1, a1_2, a1_3, a1_4, a1_5, a1_6, a1_7, a1_8, ()), ())
/-! loop.example/jetton/laws.eqBig -/
noncomputable def F54 (k : Nat) (a0_0 : Bool) (a0_1 : List Int) (a1_0 : Bool) (a1_1 : List Int) : Option ((Bool × Unit) × ((Unit × Unit × Unit) × (Unit × Unit × Unit) × Unit)) := callF cx k 54 ((a0_0, a0_1, ()), (a1_0, a1_1, ()), ())
/-! loop.example/jetton/laws.szIntS -/
noncomputable def F55 (k : Nat) (a0 : List Int) (a1 : Int) : Option ((Int × Unit) × (Unit × Unit × Unit)) := callF cx k 55 (a0, a1, ())
/-! loop.example/jetton/spec.l4Zero -/
noncomputable def F56 (k : Nat) (a0_0 : Bool) (a0_1 : List Int) (a0_2 : Int) : Option ((Bool × Unit) × ((Unit × Unit × Unit × Unit) × Unit)) := callF cx k 56 ((a0_0, a0_1, a0_2, ()), ())
/-! loop.example/jetton/spec.l1Ok -/
noncomputable def F57 (k : Nat) (a0_0 : Bool) (a0_1 : List Int) : Option ((Bool × Unit) × ((Unit × Unit × Unit) × Unit)) := callF cx k 57 ((a0_0, a0_1, ()), ())
noncomputable def F57c4 (k : Nat) (x1_0 : Bool) (x1_1 : List Int) (x3 : Int) : Option ((Bool × Unit) × ((Unit × Unit × Unit) × Unit)) := cutF cx 57 4 Tryz.f57 k ((x1_0, x1_1, ()), x3, ())
/-! loop.example/jetton/spec.l1Long -/
noncomputable def F58 (k : Nat) (a0 : List Int) : Option ((Int × Unit) × (Unit × Unit)) := callF cx k 58 (a0, ())
/-! loop.example/jetton/spec.l4Bit -/
noncomputable def F59 (k : Nat) (a0 : Bool) : Option ((Int × Unit) × (Unit × Unit)) := callF cx k 59 (a0, ())
/-! loop.example/jetton/spec.l2Cmp -/
noncomputable def F60 (k : Nat) (a0_0 : Bool) (a0_1 : List Int) (a0_2 : Int) (a1_0 : Bool) (a1_1 : List Int) (a1_2 : Int) : Option ((Int × Unit) × ((Unit × Unit × Unit × Unit) × (Unit × Unit × Unit × Unit) × Unit)) := callF cx k 60 ((a0_0, a0_1, a0_2, ()), (a1_0, a1_1, a1_2, ()), ())
/-! loop.example/jetton/spec.l4Str -/
noncomputable def F61 (k : Nat) (a0 : ByteArray) (a1 : ByteArray) : Option ((Int × Unit) × (Unit × Unit × Unit)) := callF cx k 61 (a0, a1, ())
/-! loop.example/jetton/impl.BigOk$1 -/
noncomputable def F62 (k : Nat) (a0 : Int) : Option ((Bool × Unit) × (Unit × Unit)) := callF cx k 62 (a0, ())
/-! (loop.example/jetton/impl.limbs).text -/
noncomputable def F63 (k : Nat) (a0 : List Int) : Option ((ByteArray × Unit) × (Unit × Unit)) := callF cx k 63 (a0, ())
/-! cmp.isNaN[int] -/
noncomputable def F64 (k : Nat) (a0 : Int) : Option ((Bool × Unit) × (Unit × Unit)) := callF cx k 64 (a0, ())
/-! loop.example/jetton/impl.truth -/
noncomputable def F65 (k : Nat) (a0 : Bool) : Option ((Int × Unit) × (Unit × Unit)) := callF cx k 65 (a0, ())
/-! (loop.example/jetton/impl.Dec).cmp -/
noncomputable def F66 (k : Nat) (a0_0 : Bool) (a0_1 : List Int) (a0_2 : Int) (a1_0 : Bool) (a1_1 : List Int) (a1_2 : Int) : Option ((Int × Unit) × ((Unit × Unit × Unit × Unit) × (Unit × Unit × Unit × Unit) × Unit)) := callF cx k 66 ((a0_0, a0_1, a0_2, ()), (a1_0, a1_1, a1_2, ()), ())
/-! cmp.Or[int] -/
noncomputable def F67 (k : Nat) (a0 : List Int) : Option ((Int × Unit) × (Unit × Unit)) := callF cx k 67 (a0, ())
noncomputable def F67c3 (k : Nat) (x3 : Int) (x6 : List Int) (x7 : Int) (x8 : Int) : Option ((Int × Unit) × (Unit × Unit)) := cutF cx 67 3 Tryz.f67 k (x3, x6, x7, x8, ())
/-! strings.Compare -/
noncomputable def F68 (k : Nat) (a0 : ByteArray) (a1 : ByteArray) : Option ((Int × Unit) × (Unit × Unit × Unit)) := callF cx k 68 (a0, a1, ())
/-! loop.example/jetton/spec.l1Figures -/
noncomputable def F69 (k : Nat) (a0 : List Int) : Option ((ByteArray × Unit) × (Unit × Unit)) := callF cx k 69 (a0, ())
noncomputable def F69c5 (k : Nat) (x0 : List Int) (x3 : ByteArray) (x4 : Int) : Option ((ByteArray × Unit) × (Unit × Unit)) := cutF cx 69 5 Tryz.f69 k (x0, x3, x4, ())
/-! loop.example/jetton/spec.l2Greater -/
noncomputable def F70 (k : Nat) (a0 : Int) (a1 : Int) : Option ((Int × Unit) × (Unit × Unit × Unit)) := callF cx k 70 (a0, a1, ())
/-! loop.example/jetton/spec.l2At -/
noncomputable def F71 (k : Nat) (a0_0 : Bool) (a0_1 : List Int) (a0_2 : Int) (a1 : Int) : Option (((List Int) × Unit) × ((Unit × Unit × Unit × Unit) × Unit × Unit)) := callF cx k 71 ((a0_0, a0_1, a0_2, ()), a1, ())
/-! loop.example/jetton/spec.l1Cmp -/
noncomputable def F72 (k : Nat) (a0_0 : Bool) (a0_1 : List Int) (a1_0 : Bool) (a1_1 : List Int) : Option ((Int × Unit) × ((Unit × Unit × Unit) × (Unit × Unit × Unit) × Unit)) := callF cx k 72 ((a0_0, a0_1, ()), (a1_0, a1_1, ()), ())
/-! (loop.example/jetton/impl.Dec).at -/
noncomputable def F78 (k : Nat) (a0_0 : Bool) (a0_1 : List Int) (a0_2 : Int) (a1 : Int) : Option (((Bool × (List Int) × Unit) × Unit) × ((Unit × Unit × Unit × Unit) × Unit × Unit)) := callF cx k 78 ((a0_0, a0_1, a0_2, ()), a1, ())
/-! (loop.example/jetton/impl.signed).add -/
noncomputable def F79 (k : Nat) (a0_0 : Bool) (a0_1 : List Int) (a1_0 : Bool) (a1_1 : List Int) : Option (((Bool × (List Int) × Unit) × Unit) × ((Unit × Unit × Unit) × (Unit × Unit × Unit) × Unit)) := callF cx k 79 ((a0_0, a0_1, ()), (a1_0, a1_1, ()), ())
/-! (loop.example/jetton/impl.signed).minus -/
noncomputable def F80 (k : Nat) (a0_0 : Bool) (a0_1 : List Int) : Option (((Bool × (List Int) × Unit) × Unit) × ((Unit × Unit × Unit) × Unit)) := callF cx k 80 ((a0_0, a0_1, ()), ())
/-! (loop.example/jetton/impl.signed).sign -/
noncomputable def F81 (k : Nat) (a0_0 : Bool) (a0_1 : List Int) : Option ((Int × Unit) × ((Unit × Unit × Unit) × Unit)) := callF cx k 81 ((a0_0, a0_1, ()), ())
/-! loop.example/jetton/spec.l1Dec -/
noncomputable def F83 (k : Nat) (a0 : Int) : Option ((ByteArray × Unit) × (Unit × Unit)) := callF cx k 83 (a0, ())
/-! loop.example/jetton/spec.l1Wide -/
noncomputable def F84 (k : Nat) (a0 : Int) (a1 : Int) : Option ((ByteArray × Unit) × (Unit × Unit × Unit)) := callF cx k 84 (a0, a1, ())
noncomputable def F84c2 (k : Nat) (x1 : Int) (x5 : ByteArray) : Option ((ByteArray × Unit) × (Unit × Unit × Unit)) := cutF cx 84 2 Tryz.f84 k (x1, x5, ())
/-! loop.example/jetton/spec.l1MulAbs -/
noncomputable def F85 (k : Nat) (a0 : List Int) (a1 : List Int) : Option (((List Int) × Unit) × (Unit × Unit × Unit)) := callF cx k 85 (a0, a1, ())
noncomputable def F85c3 (k : Nat) (x0 : List Int) (x1 : List Int) (x5 : List Int) (x6 : Int) : Option (((List Int) × Unit) × (Unit × Unit × Unit)) := cutF cx 85 3 Tryz.f85 k (x0, x1, x5, x6, ())
noncomputable def F85c7 (k : Nat) (x0 : List Int) (x1 : List Int) (x5 : List Int) (x6 : Int) (x7 : Int) (x8 : Int) : Option (((List Int) × Unit) × (Unit × Unit × Unit)) := cutF cx 85 7 Tryz.f85 k (x0, x1, x5, x6, x7, x8, ())
/-! loop.example/jetton/spec.l1TenAbs -/
noncomputable def F86 (k : Nat) (a0 : Int) : Option (((List Int) × Unit) × (Unit × Unit)) := callF cx k 86 (a0, ())
noncomputable def F86c2 (k : Nat) (x0 : Int) (x3 : List Int) : Option (((List Int) × Unit) × (Unit × Unit)) := cutF cx 86 2 Tryz.f86 k (x0, x3, ())
noncomputable def F86c6 (k : Nat) (x0 : Int) (x3 : List Int) (x4 : Int) : Option (((List Int) × Unit) × (Unit × Unit)) := cutF cx 86 6 Tryz.f86 k (x0, x3, x4, ())
/-! loop.example/jetton/spec.l1CmpAbs -/
noncomputable def F87 (k : Nat) (a0 : List Int) (a1 : List Int) : Option ((Int × Unit) × (Unit × Unit × Unit)) := callF cx k 87 (a0, a1, ())
noncomputable def F87c6 (k : Nat) (x0 : List Int) (x1 : List Int) (x5 : Int) : Option ((Int × Unit) × (Unit × Unit × Unit)) := cutF cx 87 6 Tryz.f87 k (x0, x1, x5, ())
/-! (loop.example/jetton/impl.Big).signed -/
noncomputable def F95 (k : Nat) (a0_0 : Bool) (a0_1 : List Int) : Option (((Bool × (List Int) × Unit) × Unit) × ((Unit × Unit × Unit) × Unit)) := callF cx k 95 ((a0_0, a0_1, ()), ())
/-! (loop.example/jetton/impl.limbs).mul -/
noncomputable def F96 (k : Nat) (a0 : List Int) (a1 : List Int) : Option (((List Int) × Unit) × (Unit × Unit × Unit)) := callF cx k 96 (a0, a1, ())
noncomputable def F96c3 (k : Nat) (x1 : List Int) (x5 : List Int) (x19 : List Int) (x20 : Int) (x21 : Int) : Option (((List Int) × Unit) × (Unit × Unit × Unit)) := cutF cx 96 3 Tryz.f96 k (x1, x5, x19, x20, x21, ())
noncomputable def F96c7 (k : Nat) (x1 : List Int) (x5 : List Int) (x6 : Int) (x7 : Int) (x8 : Int) (x19 : List Int) (x20 : Int) (x21 : Int) (x26 : List Int) (x27 : Int) (x28 : Int) : Option (((List Int) × Unit) × (Unit × Unit × Unit)) := cutF cx 96 7 Tryz.f96 k (x1, x5, x6, x7, x8, x19, x20, x21, x26, x27, x28, ())
/-! loop.example/jetton/impl.ten -/
noncomputable def F97 (k : Nat) (a0 : Int) : Option (((List Int) × Unit) × (Unit × Unit)) := callF cx k 97 (a0, ())
noncomputable def F97c3 (k : Nat) (x3 : List Int) (x5 : Int) (x6 : Int) : Option (((List Int) × Unit) × (Unit × Unit)) := cutF cx 97 3 Tryz.f97 k (x3, x5, x6, ())
/-! (loop.example/jetton/impl.limbs).add -/
noncomputable def F98 (k : Nat) (a0 : List Int) (a1 : List Int) : Option (((List Int) × Unit) × (Unit × Unit × Unit)) := callF cx k 98 (a0, a1, ())
noncomputable def F98c4 (k : Nat) (x5 : List Int) (x19 : List Int) (x20 : Int) (x21 : Int) : Option (((List Int) × Unit) × (Unit × Unit × Unit)) := cutF cx 98 4 Tryz.f98 k (x5, x19, x20, x21, ())
noncomputable def F98c9 (k : Nat) (x5 : List Int) (x36 : Int) (x37 : Int) : Option (((List Int) × Unit) × (Unit × Unit × Unit)) := cutF cx 98 9 Tryz.f98 k (x5, x36, x37, ())
/-! (loop.example/jetton/impl.limbs).cmp -/
noncomputable def F99 (k : Nat) (a0 : List Int) (a1 : List Int) : Option ((Int × Unit) × (Unit × Unit × Unit)) := callF cx k 99 (a0, a1, ())
noncomputable def F99c4 (k : Nat) (x0 : List Int) (x1 : List Int) (x5 : Int) : Option ((Int × Unit) × (Unit × Unit × Unit)) := cutF cx 99 4 Tryz.f99 k (x0, x1, x5, ())
/-! (loop.example/jetton/impl.limbs).sub -/
noncomputable def F100 (k : Nat) (a0 : List Int) (a1 : List Int) : Option (((List Int) × Unit) × (Unit × Unit × Unit)) := callF cx k 100 (a0, a1, ())
noncomputable def F100c3 (k : Nat) (x5 : List Int) (x11 : List Int) (x12 : Int) (x13 : Int) : Option (((List Int) × Unit) × (Unit × Unit × Unit)) := cutF cx 100 3 Tryz.f100 k (x5, x11, x12, x13, ())
noncomputable def F100c8 (k : Nat) (x5 : List Int) (x27 : Int) (x28 : Int) : Option (((List Int) × Unit) × (Unit × Unit × Unit)) := cutF cx 100 8 Tryz.f100 k (x5, x27, x28, ())
noncomputable def F100c13 (k : Nat) (x5 : List Int) (x27 : Int) (x28 : Int) : Option (((List Int) × Unit) × (Unit × Unit × Unit)) := cutF cx 100 13 Tryz.f100 k (x5, x27, x28, ())
/-! loop.example/jetton/spec.l1Limb -/
noncomputable def F102 (k : Nat) (a0 : List Int) (a1 : Int) : Option ((Int × Unit) × (Unit × Unit × Unit)) := callF cx k 102 (a0, a1, ())
/-! loop.example/jetton/spec.l1Trim -/
noncomputable def F103 (k : Nat) (a0 : List Int) : Option (((List Int) × Unit) × (Unit × Unit)) := callF cx k 103 (a0, ())
noncomputable def F103c2 (k : Nat) (x0 : List Int) (x3 : Int) : Option (((List Int) × Unit) × (Unit × Unit)) := cutF cx 103 2 Tryz.f103 k (x0, x3, ())
/-! (loop.example/jetton/impl.limbs).trim -/
noncomputable def F110 (k : Nat) (a0 : List Int) : Option (((List Int) × Unit) × (Unit × Unit)) := callF cx k 110 (a0, ())
noncomputable def F110c1 (k : Nat) (x0 : List Int) : Option (((List Int) × Unit) × (Unit × Unit)) := cutF cx 110 1 Tryz.f110 k (x0, ())
/-! slices.Clone[loop.example/jetton/impl.limbs,int] -/
noncomputable def F111 (k : Nat) (a0 : List Int) : Option (((List Int) × Unit) × (Unit × Unit)) := callF cx k 111 (a0, ())
/-! slices.ContainsFunc[[]loop.example/jetton/impl.Value,loop.example/jetton/impl.Value] -/
noncomputable def F19020 (k : Nat) (a0 : List (Int × Bool × Bool × (List Int) × Int × Int × Int × Int × ByteArray × Unit)) : Option ((Bool × Unit) × (Unit × Unit × Unit)) := callF cx k 19020 (a0, (()), ())
/-! slices.IndexFunc[[]loop.example/jetton/impl.Value,loop.example/jetton/impl.Value] -/
noncomputable def F19036 (k : Nat) (a0 : List (Int × Bool × Bool × (List Int) × Int × Int × Int × Int × ByteArray × Unit)) : Option ((Int × Unit) × (Unit × Unit × Unit)) := callF cx k 19036 (a0, (()), ())
noncomputable def F19036c2 (k : Nat) (x0 : List (Int × Bool × Bool × (List Int) × Int × Int × Int × Int × ByteArray × Unit)) (x7 : Int) (x8 : Int) : Option ((Int × Unit) × (Unit × Unit × Unit)) := cutF cx 19036 2 Tryz.f36 k (x0, (()), x7, x8, ())
/-! slices.ContainsFunc[[]int,int] -/
noncomputable def F23021 (k : Nat) (a0 : List Int) (a1_0 : List (Int × Bool × Bool × (List Int) × Int × Int × Int × Int × ByteArray × Unit)) : Option ((Bool × Unit) × (Unit × (Unit × Unit) × Unit)) := callF cx k 23021 (a0, (a1_0, ()), ())
/-! slices.IndexFunc[[]int,int] -/
noncomputable def F23037 (k : Nat) (a0 : List Int) (a1_0 : List (Int × Bool × Bool × (List Int) × Int × Int × Int × Int × ByteArray × Unit)) : Option ((Int × Unit) × (Unit × (Unit × Unit) × Unit)) := callF cx k 23037 (a0, (a1_0, ()), ())
noncomputable def F23037c2 (k : Nat) (x0 : List Int) (x1_0 : List (Int × Bool × Bool × (List Int) × Int × Int × Int × Int × ByteArray × Unit)) (x7 : Int) (x8 : Int) : Option ((Int × Unit) × (Unit × (Unit × Unit) × Unit)) := cutF cx 23037 2 Tryz.f37 k (x0, (x1_0, ()), x7, x8, ())
/-! slices.ContainsFunc[[]int,int] -/
noncomputable def F63021 (k : Nat) (a0 : List Int) : Option ((Bool × Unit) × (Unit × Unit × Unit)) := callF cx k 63021 (a0, (()), ())
/-! slices.IndexFunc[[]int,int] -/
noncomputable def F63037 (k : Nat) (a0 : List Int) : Option ((Int × Unit) × (Unit × Unit × Unit)) := callF cx k 63037 (a0, (()), ())
noncomputable def F63037c2 (k : Nat) (x0 : List Int) (x7 : Int) (x8 : Int) : Option ((Int × Unit) × (Unit × Unit × Unit)) := cutF cx 63037 2 Tryz.f37 k (x0, (()), x7, x8, ())
theorem F3_eq (k : Nat) (a0 : List (Int × Bool × Bool × (List Int) × Int × Int × Int × Int × ByteArray × Unit)) (a1 : List (Int × Bool × Bool × (List Int) × Int × Int × Int × Int × ByteArray × Unit)) (a2 : List Int) (a3 : List Bool) : F3 (k + 2) a0 a1 a2 a3 =
    if (decide ((a2.length : Int) > (1048576 : Int))) = true then some ((true, ()), ((), (), (), (), ())) else if (decide ((a3.length : Int) > (1048576 : Int))) = true then some ((true, ()), ((), (), (), (), ())) else (F4 k a0 (1048576 : Int)).bind fun r1 => if (decide (r1.1.1 < (0 : Int))) = true then some ((true, ()), ((), (), (), (), ())) else (F4 k a1 r1.1.1).bind fun r2 => if (decide (r2.1.1 < (0 : Int))) = true then some ((true, ()), ((), (), (), (), ())) else (F6 k a0).bind fun r3 => (F6 k a1).bind fun r4 => (F7 k a2).bind fun r5 => (F8 k a3).bind fun r6 => (F5 k r3.1.1 r4.1.1 r5.1.1 r6.1.1).bind fun r7 => (F6 k a0).bind fun r8 => (F6 k a1).bind fun r9 => (F7 k a2).bind fun r10 => (F8 k a3).bind fun r11 => (F9 k r8.1.1 r9.1.1 r10.1.1 r11.1.1).bind fun r12 => if (r12.1.1 != r7.1.1) = true then some ((false, ()), ((), (), (), (), ())) else (F6 k a0).bind fun r13 => (F10 k r8.1.1 r13.1.1).bind fun r14 => if (!r14.1.1) = true then some ((false, ()), ((), (), (), (), ())) else (F6 k a1).bind fun r15 => (F10 k r9.1.1 r15.1.1).bind fun r16 => if (!r16.1.1) = true then some ((false, ()), ((), (), (), (), ())) else (F7 k a2).bind fun r17 => (F11 k r10.1.1 r17.1.1).bind fun r18 => if (!r18.1.1) = true then some ((false, ()), ((), (), (), (), ())) else (F8 k a3).bind fun r19 => (F12 k r11.1.1 r19.1.1).bind fun r20 => if (!r20.1.1) = true then some ((false, ()), ((), (), (), (), ())) else some ((true, ()), ((), (), (), (), ())) := by kernel_rfl
theorem F4_eq (k : Nat) (a0 : List (Int × Bool × Bool × (List Int) × Int × Int × Int × Int × ByteArray × Unit)) (a1 : Int) : F4 (k + 2) a0 a1 =
    if (decide ((IntKind.i64.wrap (a1 - (a0.length : Int))) < (0 : Int))) = true then some (((-1 : Int), ()), ((), (), ())) else F4c5 k a0 (IntKind.i64.wrap (a1 - (a0.length : Int))) (0 : Int) := by kernel_rfl
theorem F4c5_eq (k : Nat) (x0 : List (Int × Bool × Bool × (List Int) × Int × Int × Int × Int × ByteArray × Unit)) (x1 : Int) (x5 : Int) : F4c5 (k + 1) x0 x1 x5 =
    if (decide (x5 < (x0.length : Int))) = true then if (decide (0 ≤ x5)) = true then (x0[x5.toNat]?).bind fun y1 => (F13 k y1.1 y1.2.1 y1.2.2.1 y1.2.2.2.1 y1.2.2.2.2.1 y1.2.2.2.2.2.1 y1.2.2.2.2.2.2.1 y1.2.2.2.2.2.2.2.1 y1.2.2.2.2.2.2.2.2.1 x1).bind fun r2 => if (decide (r2.1.1 < (0 : Int))) = true then some (((-1 : Int), ()), ((), (), ())) else F4c5 k x0 r2.1.1 (IntKind.i64.wrap (x5 + (1 : Int))) else none else some ((x1, ()), ((), (), ())) := by kernel_rfl
theorem F5_eq (k : Nat) (a0 : List (Int × Bool × Bool × (List Int) × Int × Int × Int × Int × ByteArray × Unit)) (a1 : List (Int × Bool × Bool × (List Int) × Int × Int × Int × Int × ByteArray × Unit)) (a2 : List Int) (a3 : List Bool) : F5 (k + 2) a0 a1 a2 a3 =
    (F14 k a0).bind fun r1 => if (!r1.1.1) = true then some (((2 : Int), ()), ((), (), (), (), ())) else (F14 k a1).bind fun r2 => if (!r2.1.1) = true then some (((2 : Int), ()), ((), (), (), (), ())) else if ((a0.length : Int) != (a1.length : Int)) = true then some (((2 : Int), ()), ((), (), (), (), ())) else (F15 k a2 a3 (a0.length : Int)).bind fun r3 => if (!r3.1.1) = true then some (((2 : Int), ()), ((), (), (), (), ())) else (F16 k a0 a1 a2 a3).bind fun r4 => some ((r4.1.1, ()), ((), (), (), (), ())) := by kernel_rfl
theorem F6_eq (k : Nat) (a0 : List (Int × Bool × Bool × (List Int) × Int × Int × Int × Int × ByteArray × Unit)) : F6 (k + 2) a0 =
    if (decide (0 ≤ (a0.length : Int)) && decide ((a0.length : Int) ≤ (a0.length : Int)) && decide ((a0.length : Int) ≤ (1466015503701 : Int))) = true then F6c3 k a0 (List.replicate (a0.length : Int).toNat ((0 : Int), (false, (false, (([] : List Int), ((0 : Int), ((0 : Int), ((0 : Int), ((0 : Int), (ByteArray.empty, ())))))))))) (0 : Int) else none := by kernel_rfl
theorem F6c3_eq (k : Nat) (x0 : List (Int × Bool × Bool × (List Int) × Int × Int × Int × Int × ByteArray × Unit)) (x3 : List (Int × Bool × Bool × (List Int) × Int × Int × Int × Int × ByteArray × Unit)) (x4 : Int) : F6c3 (k + 1) x0 x3 x4 =
    if (decide (x4 < (x0.length : Int))) = true then if (decide (0 ≤ x4)) = true then (x0[x4.toNat]?).bind fun y1 => (F17 k y1.1 y1.2.1 y1.2.2.1 y1.2.2.2.1 y1.2.2.2.2.1 y1.2.2.2.2.2.1 y1.2.2.2.2.2.2.1 y1.2.2.2.2.2.2.2.1 y1.2.2.2.2.2.2.2.2.1).bind fun r2 => if (decide (0 ≤ x4) && decide (x4 < (x3.length : Int))) = true then (x3[x4.toNat]?).bind fun y3 => F6c3 k x0 (x3.set x4.toNat (r2.1.1.1, (r2.1.1.2.1, (r2.1.1.2.2.1, (r2.1.1.2.2.2.1, (r2.1.1.2.2.2.2.1, (r2.1.1.2.2.2.2.2.1, (r2.1.1.2.2.2.2.2.2.1, (r2.1.1.2.2.2.2.2.2.2.1, (r2.1.1.2.2.2.2.2.2.2.2.1, ())))))))))) (IntKind.i64.wrap (x4 + (1 : Int))) else none else none else some ((x3, ()), ((), ())) := by kernel_rfl
theorem F7_eq (k : Nat) (a0 : List Int) : F7 (k + 2) a0 =
    if (decide (0 ≤ (a0.length : Int)) && decide ((a0.length : Int) ≤ (a0.length : Int)) && decide ((a0.length : Int) ≤ (17592186044416 : Int))) = true then F7c3 k a0 (List.replicate (a0.length : Int).toNat (0 : Int)) (0 : Int) else none := by kernel_rfl
theorem F7c3_eq (k : Nat) (x0 : List Int) (x3 : List Int) (x4 : Int) : F7c3 (k + 1) x0 x3 x4 =
    if (decide (x4 < (x0.length : Int))) = true then if (decide (0 ≤ x4)) = true then (x0[x4.toNat]?).bind fun y1 => if (decide (0 ≤ x4) && decide (x4 < (x3.length : Int))) = true then (x3[x4.toNat]?).bind fun y2 => F7c3 k x0 (x3.set x4.toNat y1) (IntKind.i64.wrap (x4 + (1 : Int))) else none else none else some ((x3, ()), ((), ())) := by kernel_rfl
theorem F8_eq (k : Nat) (a0 : List Bool) : F8 (k + 2) a0 =
    if (decide (0 ≤ (a0.length : Int)) && decide ((a0.length : Int) ≤ (a0.length : Int)) && decide ((a0.length : Int) ≤ (140737488355328 : Int))) = true then F8c3 k a0 (List.replicate (a0.length : Int).toNat false) (0 : Int) else none := by kernel_rfl
theorem F8c3_eq (k : Nat) (x0 : List Bool) (x3 : List Bool) (x4 : Int) : F8c3 (k + 1) x0 x3 x4 =
    if (decide (x4 < (x0.length : Int))) = true then if (decide (0 ≤ x4)) = true then (x0[x4.toNat]?).bind fun y1 => if (decide (0 ≤ x4) && decide (x4 < (x3.length : Int))) = true then (x3[x4.toNat]?).bind fun y2 => F8c3 k x0 (x3.set x4.toNat y1) (IntKind.i64.wrap (x4 + (1 : Int))) else none else none else some ((x3, ()), ((), ())) := by kernel_rfl
theorem F9_eq (k : Nat) (a0 : List (Int × Bool × Bool × (List Int) × Int × Int × Int × Int × ByteArray × Unit)) (a1 : List (Int × Bool × Bool × (List Int) × Int × Int × Int × Int × ByteArray × Unit)) (a2 : List Int) (a3 : List Bool) : F9 (k + 2) a0 a1 a2 a3 =
    if ((a0.length : Int) != (a1.length : Int)) = true then some (((2 : Int), ()), ((), (), (), (), ())) else if ((a2.length : Int) != (a3.length : Int)) = true then some (((2 : Int), ()), ((), (), (), (), ())) else (F19020 k a0).bind fun r1 => if r1.1.1 = true then some (((2 : Int), ()), ((), (), (), (), ())) else (F19020 k a1).bind fun r2 => if r2.1.1 = true then some (((2 : Int), ()), ((), (), (), (), ())) else (F23021 k a2 a0).bind fun r3 => if r3.1.1 = true then some (((2 : Int), ()), ((), (), (), (), ())) else (F24 k a0 a1 a2 a3).bind fun r4 => some ((r4.1.1, ()), ((), (), (), (), ())) := by kernel_rfl
theorem F10_eq (k : Nat) (a0 : List (Int × Bool × Bool × (List Int) × Int × Int × Int × Int × ByteArray × Unit)) (a1 : List (Int × Bool × Bool × (List Int) × Int × Int × Int × Int × ByteArray × Unit)) : F10 (k + 2) a0 a1 =
    if ((a0.length : Int) != (a1.length : Int)) = true then some ((false, ()), ((), (), ())) else F10c4 k a0 a1 (0 : Int) := by kernel_rfl
theorem F10c4_eq (k : Nat) (x0 : List (Int × Bool × Bool × (List Int) × Int × Int × Int × Int × ByteArray × Unit)) (x1 : List (Int × Bool × Bool × (List Int) × Int × Int × Int × Int × ByteArray × Unit)) (x5 : Int) : F10c4 (k + 1) x0 x1 x5 =
    if (decide (x5 < (x0.length : Int))) = true then if (decide (0 ≤ x5)) = true then (x0[x5.toNat]?).bind fun y1 => if (decide (0 ≤ x5)) = true then (x1[x5.toNat]?).bind fun y2 => (F25 k y1.1 y1.2.1 y1.2.2.1 y1.2.2.2.1 y1.2.2.2.2.1 y1.2.2.2.2.2.1 y1.2.2.2.2.2.2.1 y1.2.2.2.2.2.2.2.1 y1.2.2.2.2.2.2.2.2.1 y2.1 y2.2.1 y2.2.2.1 y2.2.2.2.1 y2.2.2.2.2.1 y2.2.2.2.2.2.1 y2.2.2.2.2.2.2.1 y2.2.2.2.2.2.2.2.1 y2.2.2.2.2.2.2.2.2.1).bind fun r3 => if (!r3.1.1) = true then some ((false, ()), ((), (), ())) else F10c4 k x0 x1 (IntKind.i64.wrap (x5 + (1 : Int))) else none else none else some ((true, ()), ((), (), ())) := by kernel_rfl
theorem F11_eq (k : Nat) (a0 : List Int) (a1 : List Int) : F11 (k + 2) a0 a1 =
    if ((a0.length : Int) != (a1.length : Int)) = true then some ((false, ()), ((), (), ())) else F11c4 k a0 a1 (0 : Int) := by kernel_rfl
theorem F11c4_eq (k : Nat) (x0 : List Int) (x1 : List Int) (x5 : Int) : F11c4 (k + 1) x0 x1 x5 =
    if (decide (x5 < (x0.length : Int))) = true then if (decide (0 ≤ x5)) = true then (x0[x5.toNat]?).bind fun y1 => if (decide (0 ≤ x5)) = true then (x1[x5.toNat]?).bind fun y2 => if (y1 != y2) = true then some ((false, ()), ((), (), ())) else F11c4 k x0 x1 (IntKind.i64.wrap (x5 + (1 : Int))) else none else none else some ((true, ()), ((), (), ())) := by kernel_rfl
theorem F12_eq (k : Nat) (a0 : List Bool) (a1 : List Bool) : F12 (k + 2) a0 a1 =
    if ((a0.length : Int) != (a1.length : Int)) = true then some ((false, ()), ((), (), ())) else F12c4 k a0 a1 (0 : Int) := by kernel_rfl
theorem F12c4_eq (k : Nat) (x0 : List Bool) (x1 : List Bool) (x5 : Int) : F12c4 (k + 1) x0 x1 x5 =
    if (decide (x5 < (x0.length : Int))) = true then if (decide (0 ≤ x5)) = true then (x0[x5.toNat]?).bind fun y1 => if (decide (0 ≤ x5)) = true then (x1[x5.toNat]?).bind fun y2 => if (!(y1 == y2)) = true then some ((false, ()), ((), (), ())) else F12c4 k x0 x1 (IntKind.i64.wrap (x5 + (1 : Int))) else none else none else some ((true, ()), ((), (), ())) := by kernel_rfl
theorem F13_eq (k : Nat) (a0_0 : Int) (a0_1 : Bool) (a0_2 : Bool) (a0_3 : List Int) (a0_4 : Int) (a0_5 : Int) (a0_6 : Int) (a0_7 : Int) (a0_8 : ByteArray) (a1 : Int) : F13 (k + 2) a0_0 a0_1 a0_2 a0_3 a0_4 a0_5 a0_6 a0_7 a0_8 a1 =
    (F26 k a0_2 a0_3 a0_4 a1).bind fun r1 => if (decide (r1.1.1 < (0 : Int))) = true then some (((-1 : Int), ()), (((), (), (), (), (), (), (), (), (), ()), (), ())) else if (decide ((IntKind.i64.wrap (r1.1.1 - (a0_8.size : Int))) < (0 : Int))) = true then some (((-1 : Int), ()), (((), (), (), (), (), (), (), (), (), ()), (), ())) else some (((IntKind.i64.wrap (r1.1.1 - (a0_8.size : Int))), ()), (((), (), (), (), (), (), (), (), (), ()), (), ())) := by kernel_rfl
theorem F14_eq (k : Nat) (a0 : List (Int × Bool × Bool × (List Int) × Int × Int × Int × Int × ByteArray × Unit)) : F14 (k + 2) a0 =
    F14c2 k a0 (0 : Int) := by kernel_rfl
theorem F14c2_eq (k : Nat) (x0 : List (Int × Bool × Bool × (List Int) × Int × Int × Int × Int × ByteArray × Unit)) (x3 : Int) : F14c2 (k + 1) x0 x3 =
    if (decide (x3 < (x0.length : Int))) = true then if (decide (0 ≤ x3)) = true then (x0[x3.toNat]?).bind fun y1 => (F27 k y1.1 y1.2.1 y1.2.2.1 y1.2.2.2.1 y1.2.2.2.2.1 y1.2.2.2.2.2.1 y1.2.2.2.2.2.2.1 y1.2.2.2.2.2.2.2.1 y1.2.2.2.2.2.2.2.2.1).bind fun r2 => if (!r2.1.1) = true then some ((false, ()), ((), ())) else F14c2 k x0 (IntKind.i64.wrap (x3 + (1 : Int))) else none else some ((true, ()), ((), ())) := by kernel_rfl
theorem F15_eq (k : Nat) (a0 : List Int) (a1 : List Bool) (a2 : Int) : F15 (k + 2) a0 a1 a2 =
    F15c2 k a0 a1 a2 (0 : Int) := by kernel_rfl
theorem F15c2_eq (k : Nat) (x0 : List Int) (x1 : List Bool) (x2 : Int) (x7 : Int) : F15c2 (k + 1) x0 x1 x2 x7 =
    if (decide (x7 < (x0.length : Int))) = true then if (decide (0 ≤ x7)) = true then (x0[x7.toNat]?).bind fun y1 => (F28 k y1 (0 : Int) (IntKind.i64.wrap (x2 - (1 : Int)))).bind fun r2 => if (!r2.1.1) = true then some ((false, ()), ((), (), (), ())) else F15c2 k x0 x1 x2 (IntKind.i64.wrap (x7 + (1 : Int))) else none else some ((((x0.length : Int) == (x1.length : Int)), ()), ((), (), (), ())) := by kernel_rfl
theorem F16_eq (k : Nat) (a0 : List (Int × Bool × Bool × (List Int) × Int × Int × Int × Int × ByteArray × Unit)) (a1 : List (Int × Bool × Bool × (List Int) × Int × Int × Int × Int × ByteArray × Unit)) (a2 : List Int) (a3 : List Bool) : F16 (k + 2) a0 a1 a2 a3 =
    F16c2 k a0 a1 a2 a3 (0 : Int) := by kernel_rfl
theorem F16c2_eq (k : Nat) (x0 : List (Int × Bool × Bool × (List Int) × Int × Int × Int × Int × ByteArray × Unit)) (x1 : List (Int × Bool × Bool × (List Int) × Int × Int × Int × Int × ByteArray × Unit)) (x2 : List Int) (x3 : List Bool) (x9 : Int) : F16c2 (k + 1) x0 x1 x2 x3 x9 =
    if (decide (x9 < (x2.length : Int))) = true then if (decide (0 ≤ x9)) = true then (x2[x9.toNat]?).bind fun y1 => if (decide (0 ≤ y1)) = true then (x0[y1.toNat]?).bind fun y2 => if (decide (0 ≤ x9)) = true then (x2[x9.toNat]?).bind fun y3 => if (decide (0 ≤ y3)) = true then (x1[y3.toNat]?).bind fun y4 => (F29 k y2.1 y2.2.1 y2.2.2.1 y2.2.2.2.1 y2.2.2.2.2.1 y2.2.2.2.2.2.1 y2.2.2.2.2.2.2.1 y2.2.2.2.2.2.2.2.1 y2.2.2.2.2.2.2.2.2.1 y4.1 y4.2.1 y4.2.2.1 y4.2.2.2.1 y4.2.2.2.2.1 y4.2.2.2.2.2.1 y4.2.2.2.2.2.2.1 y4.2.2.2.2.2.2.2.1 y4.2.2.2.2.2.2.2.2.1).bind fun r5 => if (r5.1.1 != (0 : Int)) = true then if (decide (0 ≤ x9)) = true then (x3[x9.toNat]?).bind fun y6 => if y6 = true then some (((IntKind.i64.wrap (0 - r5.1.1)), ()), ((), (), (), (), ())) else if (r5.1.1 != (0 : Int)) = true then some ((r5.1.1, ()), ((), (), (), (), ())) else F16c2 k x0 x1 x2 x3 (IntKind.i64.wrap (x9 + (1 : Int))) else none else if (r5.1.1 != (0 : Int)) = true then some ((r5.1.1, ()), ((), (), (), (), ())) else F16c2 k x0 x1 x2 x3 (IntKind.i64.wrap (x9 + (1 : Int))) else none else none else none else none else some (((0 : Int), ()), ((), (), (), (), ())) := by kernel_rfl
theorem F17_eq (k : Nat) (a0_0 : Int) (a0_1 : Bool) (a0_2 : Bool) (a0_3 : List Int) (a0_4 : Int) (a0_5 : Int) (a0_6 : Int) (a0_7 : Int) (a0_8 : ByteArray) : F17 (k + 2) a0_0 a0_1 a0_2 a0_3 a0_4 a0_5 a0_6 a0_7 a0_8 =
    (F30 k a0_2 a0_3 a0_4).bind fun r1 => (F31 k a0_6 a0_7).bind fun r2 => some (((a0_0, a0_1, r1.1.1.1, r1.1.1.2.1, r1.1.1.2.2.1, a0_5, r2.1.1.1, r2.1.1.2.1, a0_8, ()), ()), (((), (), (), (), (), (), (), (), (), ()), ())) := by kernel_rfl
theorem F18_eq (k : Nat) (a0_0 : Int) (a0_1 : Bool) (a0_2 : Bool) (a0_3 : List Int) (a0_4 : Int) (a0_5 : Int) (a0_6 : Int) (a0_7 : Int) (a0_8 : ByteArray) : F18 (k + 2) a0_0 a0_1 a0_2 a0_3 a0_4 a0_5 a0_6 a0_7 a0_8 =
    (F19 k a0_0 a0_1 a0_2 a0_3 a0_4 a0_5 a0_6 a0_7 a0_8).bind fun r1 => some (((!r1.1.1), ()), (((), (), (), (), (), (), (), (), (), ()), ())) := by kernel_rfl
theorem F19_eq (k : Nat) (a0_0 : Int) (a0_1 : Bool) (a0_2 : Bool) (a0_3 : List Int) (a0_4 : Int) (a0_5 : Int) (a0_6 : Int) (a0_7 : Int) (a0_8 : ByteArray) : F19 (k + 2) a0_0 a0_1 a0_2 a0_3 a0_4 a0_5 a0_6 a0_7 a0_8 =
    if (a0_0 == (0 : Int)) = true then F19c21 k a0_0 a0_1 a0_2 a0_3 a0_4 a0_5 a0_6 a0_7 a0_8 true else if (a0_0 == (1 : Int)) = true then F19c21 k a0_0 false a0_2 a0_3 a0_4 a0_5 a0_6 a0_7 a0_8 true else if (a0_0 == (2 : Int)) = true then (F32 k a0_2 a0_3 a0_4).bind fun r1 => F19c21 k a0_0 a0_1 false ([] : List Int) (0 : Int) a0_5 a0_6 a0_7 a0_8 r1.1.1 else if (a0_0 == (3 : Int)) = true then (F33 k a0_5).bind fun r2 => F19c21 k a0_0 a0_1 a0_2 a0_3 a0_4 (0 : Int) a0_6 a0_7 a0_8 r2.1.1 else if (a0_0 == (4 : Int)) = true then (F34 k a0_6 a0_7).bind fun r3 => F19c21 k a0_0 a0_1 a0_2 a0_3 a0_4 a0_5 (0 : Int) (0 : Int) a0_8 r3.1.1 else if (a0_0 == (5 : Int)) = true then F19c17 k a0_0 a0_1 a0_2 a0_3 a0_4 a0_5 a0_6 a0_7 a0_8 a0_0 a0_1 a0_2 a0_3 a0_4 a0_5 a0_6 a0_7 (⟨#[]⟩ : ByteArray) (decide ((a0_8.size : Int) ≤ (12 : Int))) (a0_8.size : Int) (0 : Int) else F19c21 k a0_0 a0_1 a0_2 a0_3 a0_4 a0_5 a0_6 a0_7 a0_8 false := by kernel_rfl
theorem F19c21_eq (k : Nat) (x3_0 : Int) (x3_1 : Bool) (x3_2 : Bool) (x3_3 : List Int) (x3_4 : Int) (x3_5 : Int) (x3_6 : Int) (x3_7 : Int) (x3_8 : ByteArray) (x4 : Bool) : F19c21 (k + 1) x3_0 x3_1 x3_2 x3_3 x3_4 x3_5 x3_6 x3_7 x3_8 x4 =
    if x4 = true then if (!x3_1) = true then (F35 k x3_2 x3_3 x3_4).bind fun r4 => if r4.1.1 = true then if (x3_5 == (0 : Int)) = true then if (x3_6 == (0 : Int) && (x3_7 == (0 : Int) && true)) = true then some (((x3_8.toList == (⟨#[]⟩ : ByteArray).toList), ()), (((), (), (), (), (), (), (), (), (), ()), ())) else some ((false, ()), (((), (), (), (), (), (), (), (), (), ()), ())) else some ((false, ()), (((), (), (), (), (), (), (), (), (), ()), ())) else some ((false, ()), (((), (), (), (), (), (), (), (), (), ()), ())) else some ((false, ()), (((), (), (), (), (), (), (), (), (), ()), ())) else some ((false, ()), (((), (), (), (), (), (), (), (), (), ()), ())) := by kernel_rfl
theorem F19c17_eq (k : Nat) (x1_0 : Int) (x1_1 : Bool) (x1_2 : Bool) (x1_3 : List Int) (x1_4 : Int) (x1_5 : Int) (x1_6 : Int) (x1_7 : Int) (x1_8 : ByteArray) (x3_0 : Int) (x3_1 : Bool) (x3_2 : Bool) (x3_3 : List Int) (x3_4 : Int) (x3_5 : Int) (x3_6 : Int) (x3_7 : Int) (x3_8 : ByteArray) (x4 : Bool) (x43 : Int) (x44 : Int) : F19c17 (k + 1) x1_0 x1_1 x1_2 x1_3 x1_4 x1_5 x1_6 x1_7 x1_8 x3_0 x3_1 x3_2 x3_3 x3_4 x3_5 x3_6 x3_7 x3_8 x4 x43 x44 =
    if (decide (x44 < x43)) = true then if x4 = true then if (decide (0 ≤ x44)) = true then (x1_8[x44.toNat]?).bind fun u5 => (F23 k (IntKind.i64.wrap (u5.toNat : Int)) (32 : Int) (126 : Int)).bind fun r6 => F19c17 k x1_0 x1_1 x1_2 x1_3 x1_4 x1_5 x1_6 x1_7 x1_8 x3_0 x3_1 x3_2 x3_3 x3_4 x3_5 x3_6 x3_7 x3_8 r6.1.1 x43 (IntKind.i64.wrap (x44 + (1 : Int))) else none else F19c17 k x1_0 x1_1 x1_2 x1_3 x1_4 x1_5 x1_6 x1_7 x1_8 x3_0 x3_1 x3_2 x3_3 x3_4 x3_5 x3_6 x3_7 x3_8 false x43 (IntKind.i64.wrap (x44 + (1 : Int))) else F19c21 k x3_0 x3_1 x3_2 x3_3 x3_4 x3_5 x3_6 x3_7 x3_8 x4 := by kernel_rfl
theorem F22_eq (k : Nat) (a0 : Int) (a1 : List (Int × Bool × Bool × (List Int) × Int × Int × Int × Int × ByteArray × Unit)) : F22 (k + 2) a0 a1 =
    (F23 k a0 (0 : Int) (IntKind.i64.wrap ((a1.length : Int) - (1 : Int)))).bind fun r1 => some (((!r1.1.1), ()), ((), (), ())) := by kernel_rfl
theorem F23_eq (k : Nat) (a0 : Int) (a1 : Int) (a2 : Int) : F23 (k + 2) a0 a1 a2 =
    if (decide (a0 ≥ a1)) = true then some ((decide (a0 ≤ a2), ()), ((), (), (), ())) else some ((false, ()), ((), (), (), ())) := by kernel_rfl
theorem F24_eq (k : Nat) (a0 : List (Int × Bool × Bool × (List Int) × Int × Int × Int × Int × ByteArray × Unit)) (a1 : List (Int × Bool × Bool × (List Int) × Int × Int × Int × Int × ByteArray × Unit)) (a2 : List Int) (a3 : List Bool) : F24 (k + 2) a0 a1 a2 a3 =
    F24c2 k a0 a1 a3 a2 (a2.length : Int) (0 : Int) := by kernel_rfl
theorem F24c2_eq (k : Nat) (x0 : List (Int × Bool × Bool × (List Int) × Int × Int × Int × Int × ByteArray × Unit)) (x1 : List (Int × Bool × Bool × (List Int) × Int × Int × Int × Int × ByteArray × Unit)) (x3 : List Bool) (x12 : List Int) (x13 : Int) (x14 : Int) : F24c2 (k + 1) x0 x1 x3 x12 x13 x14 =
    if (decide (x14 < x13)) = true then if (decide (0 ≤ x14)) = true then (x12[x14.toNat]?).bind fun y1 => if (decide (0 ≤ y1)) = true then (x0[y1.toNat]?).bind fun y2 => if (decide (0 ≤ y1)) = true then (x1[y1.toNat]?).bind fun y3 => (F38 k y2.1 y2.2.1 y2.2.2.1 y2.2.2.2.1 y2.2.2.2.2.1 y2.2.2.2.2.2.1 y2.2.2.2.2.2.2.1 y2.2.2.2.2.2.2.2.1 y2.2.2.2.2.2.2.2.2.1 y3.1 y3.2.1 y3.2.2.1 y3.2.2.2.1 y3.2.2.2.2.1 y3.2.2.2.2.2.1 y3.2.2.2.2.2.2.1 y3.2.2.2.2.2.2.2.1 y3.2.2.2.2.2.2.2.2.1).bind fun r4 => if (r4.1.1 != (0 : Int)) = true then if (decide (0 ≤ x14)) = true then (x3[x14.toNat]?).bind fun y5 => if y5 = true then some (((IntKind.i64.wrap (0 - r4.1.1)), ()), ((), (), (), (), ())) else some ((r4.1.1, ()), ((), (), (), (), ())) else none else F24c2 k x0 x1 x3 x12 x13 (IntKind.i64.wrap (x14 + (1 : Int))) else none else none else none else some (((0 : Int), ()), ((), (), (), (), ())) := by kernel_rfl
theorem F25_eq (k : Nat) (a0_0 : Int) (a0_1 : Bool) (a0_2 : Bool) (a0_3 : List Int) (a0_4 : Int) (a0_5 : Int) (a0_6 : Int) (a0_7 : Int) (a0_8 : ByteArray) (a1_0 : Int) (a1_1 : Bool) (a1_2 : Bool) (a1_3 : List Int) (a1_4 : Int) (a1_5 : Int) (a1_6 : Int) (a1_7 : Int) (a1_8 : ByteArray) : F25 (k + 2) a0_0 a0_1 a0_2 a0_3 a0_4 a0_5 a0_6 a0_7 a0_8 a1_0 a1_1 a1_2 a1_3 a1_4 a1_5 a1_6 a1_7 a1_8 =
    if (a0_0 != a1_0) = true then some ((false, ()), (((), (), (), (), (), (), (), (), (), ()), ((), (), (), (), (), (), (), (), (), ()), ())) else if (!(a0_1 == a1_1)) = true then some ((false, ()), (((), (), (), (), (), (), (), (), (), ()), ((), (), (), (), (), (), (), (), (), ()), ())) else (F39 k a0_2 a0_3 a0_4 a1_2 a1_3 a1_4).bind fun r1 => if (!r1.1.1) = true then some ((false, ()), (((), (), (), (), (), (), (), (), (), ()), ((), (), (), (), (), (), (), (), (), ()), ())) else if (a0_5 != a1_5) = true then some ((false, ()), (((), (), (), (), (), (), (), (), (), ()), ((), (), (), (), (), (), (), (), (), ()), ())) else (F40 k a0_6 a0_7 a1_6 a1_7).bind fun r2 => if (!r2.1.1) = true then some ((false, ()), (((), (), (), (), (), (), (), (), (), ()), ((), (), (), (), (), (), (), (), (), ()), ())) else if (!(a0_8.toList == a1_8.toList)) = true then some ((false, ()), (((), (), (), (), (), (), (), (), (), ()), ((), (), (), (), (), (), (), (), (), ()), ())) else some ((true, ()), (((), (), (), (), (), (), (), (), (), ()), ((), (), (), (), (), (), (), (), (), ()), ())) := by kernel_rfl
theorem F26_eq (k : Nat) (a0_0 : Bool) (a0_1 : List Int) (a0_2 : Int) (a1 : Int) : F26 (k + 2) a0_0 a0_1 a0_2 a1 =
    (F41 k a0_0 a0_1 a1).bind fun r1 => if (decide (r1.1.1 < (0 : Int))) = true then some (((-1 : Int), ()), (((), (), (), ()), (), ())) else some ((r1.1.1, ()), (((), (), (), ()), (), ())) := by kernel_rfl
theorem F27_eq (k : Nat) (a0_0 : Int) (a0_1 : Bool) (a0_2 : Bool) (a0_3 : List Int) (a0_4 : Int) (a0_5 : Int) (a0_6 : Int) (a0_7 : Int) (a0_8 : ByteArray) : F27 (k + 2) a0_0 a0_1 a0_2 a0_3 a0_4 a0_5 a0_6 a0_7 a0_8 =
    (F28 k a0_0 (0 : Int) (5 : Int)).bind fun r1 => if (!r1.1.1) = true then some ((false, ()), (((), (), (), (), (), (), (), (), (), ()), ())) else (F42 k a0_0 a0_1 a0_2 a0_3 a0_4 a0_5 a0_6 a0_7 a0_8).bind fun r2 => if (!r2.1.1) = true then some ((false, ()), (((), (), (), (), (), (), (), (), (), ()), ())) else if (a0_0 == (2 : Int)) = true then (F43 k a0_2 a0_3 a0_4).bind fun r3 => some ((r3.1.1, ()), (((), (), (), (), (), (), (), (), (), ()), ())) else if (a0_0 == (3 : Int)) = true then (F44 k a0_5).bind fun r4 => some ((r4.1.1, ()), (((), (), (), (), (), (), (), (), (), ()), ())) else if (a0_0 == (4 : Int)) = true then (F45 k a0_6 a0_7).bind fun r5 => some ((r5.1.1, ()), (((), (), (), (), (), (), (), (), (), ()), ())) else (F46 k a0_8).bind fun r6 => some ((r6.1.1, ()), (((), (), (), (), (), (), (), (), (), ()), ())) := by kernel_rfl
theorem F28_eq (k : Nat) (a0 : Int) (a1 : Int) (a2 : Int) : F28 (k + 2) a0 a1 a2 =
    if (decide (a0 ≥ a1)) = true then some ((decide (a0 ≤ a2), ()), ((), (), (), ())) else some ((false, ()), ((), (), (), ())) := by kernel_rfl
theorem F29_eq (k : Nat) (a0_0 : Int) (a0_1 : Bool) (a0_2 : Bool) (a0_3 : List Int) (a0_4 : Int) (a0_5 : Int) (a0_6 : Int) (a0_7 : Int) (a0_8 : ByteArray) (a1_0 : Int) (a1_1 : Bool) (a1_2 : Bool) (a1_3 : List Int) (a1_4 : Int) (a1_5 : Int) (a1_6 : Int) (a1_7 : Int) (a1_8 : ByteArray) : F29 (k + 2) a0_0 a0_1 a0_2 a0_3 a0_4 a0_5 a0_6 a0_7 a0_8 a1_0 a1_1 a1_2 a1_3 a1_4 a1_5 a1_6 a1_7 a1_8 =
    if (a0_0 != a1_0) = true then (F47 k a0_0 a1_0).bind fun r1 => some ((r1.1.1, ()), (((), (), (), (), (), (), (), (), (), ()), ((), (), (), (), (), (), (), (), (), ()), ())) else (F48 k a0_0 a0_1 a0_2 a0_3 a0_4 a0_5 a0_6 a0_7 a0_8 a1_0 a1_1 a1_2 a1_3 a1_4 a1_5 a1_6 a1_7 a1_8).bind fun r2 => some ((r2.1.1, ()), (((), (), (), (), (), (), (), (), (), ()), ((), (), (), (), (), (), (), (), (), ()), ())) := by kernel_rfl
theorem F30_eq (k : Nat) (a0_0 : Bool) (a0_1 : List Int) (a0_2 : Int) : F30 (k + 2) a0_0 a0_1 a0_2 =
    (F49 k a0_0 a0_1).bind fun r1 => some (((r1.1.1.1, r1.1.1.2.1, a0_2, ()), ()), (((), (), (), ()), ())) := by kernel_rfl
theorem F31_eq (k : Nat) (a0_0 : Int) (a0_1 : Int) : F31 (k + 2) a0_0 a0_1 =
    some (((a0_0, a0_1, ()), ()), (((), (), ()), ())) := by kernel_rfl
theorem F32_eq (k : Nat) (a0_0 : Bool) (a0_1 : List Int) (a0_2 : Int) : F32 (k + 2) a0_0 a0_1 a0_2 =
    (F50 k a0_0 a0_1).bind fun r1 => if r1.1.1 = true then (F51 k a0_1).bind fun r2 => if (decide (r2.1.1 ≤ (30 : Int))) = true then (F23 k a0_2 (0 : Int) (12 : Int)).bind fun r3 => some ((r3.1.1, ()), (((), (), (), ()), ())) else some ((false, ()), (((), (), (), ()), ())) else some ((false, ()), (((), (), (), ()), ())) := by kernel_rfl
theorem F33_eq (k : Nat) (a0 : Int) : F33 (k + 2) a0 =
    (F23 k a0 (1 : Int) (3652059 : Int)).bind fun r1 => some ((r1.1.1, ()), ((), ())) := by kernel_rfl
theorem F34_eq (k : Nat) (a0_0 : Int) (a0_1 : Int) : F34 (k + 2) a0_0 a0_1 =
    (F23 k a0_0 (-120000 : Int) (120000 : Int)).bind fun r1 => if r1.1.1 = true then (F23 k a0_1 (-4000000 : Int) (4000000 : Int)).bind fun r2 => some ((r2.1.1, ()), (((), (), ()), ())) else some ((false, ()), (((), (), ()), ())) := by kernel_rfl
theorem F35_eq (k : Nat) (a0_0 : Bool) (a0_1 : List Int) (a0_2 : Int) : F35 (k + 2) a0_0 a0_1 a0_2 =
    if (!a0_0) = true then if ((a0_1.length : Int) == (0 : Int)) = true then some (((a0_2 == (0 : Int)), ()), (((), (), (), ()), ())) else some ((false, ()), (((), (), (), ()), ())) else some ((false, ()), (((), (), (), ()), ())) := by kernel_rfl
theorem F38_eq (k : Nat) (a0_0 : Int) (a0_1 : Bool) (a0_2 : Bool) (a0_3 : List Int) (a0_4 : Int) (a0_5 : Int) (a0_6 : Int) (a0_7 : Int) (a0_8 : ByteArray) (a1_0 : Int) (a1_1 : Bool) (a1_2 : Bool) (a1_3 : List Int) (a1_4 : Int) (a1_5 : Int) (a1_6 : Int) (a1_7 : Int) (a1_8 : ByteArray) : F38 (k + 2) a0_0 a0_1 a0_2 a0_3 a0_4 a0_5 a0_6 a0_7 a0_8 a1_0 a1_1 a1_2 a1_3 a1_4 a1_5 a1_6 a1_7 a1_8 =
    if (a0_0 != a1_0) = true then (F52 k a0_0 a1_0).bind fun r1 => some ((r1.1.1, ()), (((), (), (), (), (), (), (), (), (), ()), ((), (), (), (), (), (), (), (), (), ()), ())) else (F53 k a0_0 a0_1 a0_2 a0_3 a0_4 a0_5 a0_6 a0_7 a0_8 a1_0 a1_1 a1_2 a1_3 a1_4 a1_5 a1_6 a1_7 a1_8).bind fun r2 => some ((r2.1.1, ()), (((), (), (), (), (), (), (), (), (), ()), ((), (), (), (), (), (), (), (), (), ()), ())) := by kernel_rfl
theorem F39_eq (k : Nat) (a0_0 : Bool) (a0_1 : List Int) (a0_2 : Int) (a1_0 : Bool) (a1_1 : List Int) (a1_2 : Int) : F39 (k + 2) a0_0 a0_1 a0_2 a1_0 a1_1 a1_2 =
    (F54 k a0_0 a0_1 a1_0 a1_1).bind fun r1 => if (!r1.1.1) = true then some ((false, ()), (((), (), (), ()), ((), (), (), ()), ())) else if (a0_2 != a1_2) = true then some ((false, ()), (((), (), (), ()), ((), (), (), ()), ())) else some ((true, ()), (((), (), (), ()), ((), (), (), ()), ())) := by kernel_rfl
theorem F40_eq (k : Nat) (a0_0 : Int) (a0_1 : Int) (a1_0 : Int) (a1_1 : Int) : F40 (k + 2) a0_0 a0_1 a1_0 a1_1 =
    if (a0_0 != a1_0) = true then some ((false, ()), (((), (), ()), ((), (), ()), ())) else if (a0_1 != a1_1) = true then some ((false, ()), (((), (), ()), ((), (), ()), ())) else some ((true, ()), (((), (), ()), ((), (), ()), ())) := by kernel_rfl
theorem F41_eq (k : Nat) (a0_0 : Bool) (a0_1 : List Int) (a1 : Int) : F41 (k + 2) a0_0 a0_1 a1 =
    (F55 k a0_1 a1).bind fun r1 => if (decide (r1.1.1 < (0 : Int))) = true then some (((-1 : Int), ()), (((), (), ()), (), ())) else some ((r1.1.1, ()), (((), (), ()), (), ())) := by kernel_rfl
theorem F42_eq (k : Nat) (a0_0 : Int) (a0_1 : Bool) (a0_2 : Bool) (a0_3 : List Int) (a0_4 : Int) (a0_5 : Int) (a0_6 : Int) (a0_7 : Int) (a0_8 : ByteArray) : F42 (k + 2) a0_0 a0_1 a0_2 a0_3 a0_4 a0_5 a0_6 a0_7 a0_8 =
    if (a0_0 != (1 : Int)) = true then if a0_1 = true then some ((false, ()), (((), (), (), (), (), (), (), (), (), ()), ())) else if (a0_0 != (2 : Int)) = true then (F56 k a0_2 a0_3 a0_4).bind fun r1 => if (!r1.1.1) = true then some ((false, ()), (((), (), (), (), (), (), (), (), (), ()), ())) else if (a0_0 != (4 : Int)) = true then if (a0_6 != (0 : Int)) = true then some ((false, ()), (((), (), (), (), (), (), (), (), (), ()), ())) else if (a0_7 != (0 : Int)) = true then some ((false, ()), (((), (), (), (), (), (), (), (), (), ()), ())) else if (a0_0 == (3 : Int)) = true then if (a0_0 == (5 : Int)) = true then some ((true, ()), (((), (), (), (), (), (), (), (), (), ()), ())) else some (((a0_8.toList == (⟨#[]⟩ : ByteArray).toList), ()), (((), (), (), (), (), (), (), (), (), ()), ())) else if (a0_5 == (0 : Int)) = true then if (a0_0 == (5 : Int)) = true then some ((true, ()), (((), (), (), (), (), (), (), (), (), ()), ())) else some (((a0_8.toList == (⟨#[]⟩ : ByteArray).toList), ()), (((), (), (), (), (), (), (), (), (), ()), ())) else some ((false, ()), (((), (), (), (), (), (), (), (), (), ()), ())) else if (a0_0 == (3 : Int)) = true then if (a0_0 == (5 : Int)) = true then some ((true, ()), (((), (), (), (), (), (), (), (), (), ()), ())) else some (((a0_8.toList == (⟨#[]⟩ : ByteArray).toList), ()), (((), (), (), (), (), (), (), (), (), ()), ())) else if (a0_5 == (0 : Int)) = true then if (a0_0 == (5 : Int)) = true then some ((true, ()), (((), (), (), (), (), (), (), (), (), ()), ())) else some (((a0_8.toList == (⟨#[]⟩ : ByteArray).toList), ()), (((), (), (), (), (), (), (), (), (), ()), ())) else some ((false, ()), (((), (), (), (), (), (), (), (), (), ()), ())) else if (a0_0 != (4 : Int)) = true then if (a0_6 != (0 : Int)) = true then some ((false, ()), (((), (), (), (), (), (), (), (), (), ()), ())) else if (a0_7 != (0 : Int)) = true then some ((false, ()), (((), (), (), (), (), (), (), (), (), ()), ())) else if (a0_0 == (3 : Int)) = true then if (a0_0 == (5 : Int)) = true then some ((true, ()), (((), (), (), (), (), (), (), (), (), ()), ())) else some (((a0_8.toList == (⟨#[]⟩ : ByteArray).toList), ()), (((), (), (), (), (), (), (), (), (), ()), ())) else if (a0_5 == (0 : Int)) = true then if (a0_0 == (5 : Int)) = true then some ((true, ()), (((), (), (), (), (), (), (), (), (), ()), ())) else some (((a0_8.toList == (⟨#[]⟩ : ByteArray).toList), ()), (((), (), (), (), (), (), (), (), (), ()), ())) else some ((false, ()), (((), (), (), (), (), (), (), (), (), ()), ())) else if (a0_0 == (3 : Int)) = true then if (a0_0 == (5 : Int)) = true then some ((true, ()), (((), (), (), (), (), (), (), (), (), ()), ())) else some (((a0_8.toList == (⟨#[]⟩ : ByteArray).toList), ()), (((), (), (), (), (), (), (), (), (), ()), ())) else if (a0_5 == (0 : Int)) = true then if (a0_0 == (5 : Int)) = true then some ((true, ()), (((), (), (), (), (), (), (), (), (), ()), ())) else some (((a0_8.toList == (⟨#[]⟩ : ByteArray).toList), ()), (((), (), (), (), (), (), (), (), (), ()), ())) else some ((false, ()), (((), (), (), (), (), (), (), (), (), ()), ())) else if (a0_0 != (2 : Int)) = true then (F56 k a0_2 a0_3 a0_4).bind fun r2 => if (!r2.1.1) = true then some ((false, ()), (((), (), (), (), (), (), (), (), (), ()), ())) else if (a0_0 != (4 : Int)) = true then if (a0_6 != (0 : Int)) = true then some ((false, ()), (((), (), (), (), (), (), (), (), (), ()), ())) else if (a0_7 != (0 : Int)) = true then some ((false, ()), (((), (), (), (), (), (), (), (), (), ()), ())) else if (a0_0 == (3 : Int)) = true then if (a0_0 == (5 : Int)) = true then some ((true, ()), (((), (), (), (), (), (), (), (), (), ()), ())) else some (((a0_8.toList == (⟨#[]⟩ : ByteArray).toList), ()), (((), (), (), (), (), (), (), (), (), ()), ())) else if (a0_5 == (0 : Int)) = true then if (a0_0 == (5 : Int)) = true then some ((true, ()), (((), (), (), (), (), (), (), (), (), ()), ())) else some (((a0_8.toList == (⟨#[]⟩ : ByteArray).toList), ()), (((), (), (), (), (), (), (), (), (), ()), ())) else some ((false, ()), (((), (), (), (), (), (), (), (), (), ()), ())) else if (a0_0 == (3 : Int)) = true then if (a0_0 == (5 : Int)) = true then some ((true, ()), (((), (), (), (), (), (), (), (), (), ()), ())) else some (((a0_8.toList == (⟨#[]⟩ : ByteArray).toList), ()), (((), (), (), (), (), (), (), (), (), ()), ())) else if (a0_5 == (0 : Int)) = true then if (a0_0 == (5 : Int)) = true then some ((true, ()), (((), (), (), (), (), (), (), (), (), ()), ())) else some (((a0_8.toList == (⟨#[]⟩ : ByteArray).toList), ()), (((), (), (), (), (), (), (), (), (), ()), ())) else some ((false, ()), (((), (), (), (), (), (), (), (), (), ()), ())) else if (a0_0 != (4 : Int)) = true then if (a0_6 != (0 : Int)) = true then some ((false, ()), (((), (), (), (), (), (), (), (), (), ()), ())) else if (a0_7 != (0 : Int)) = true then some ((false, ()), (((), (), (), (), (), (), (), (), (), ()), ())) else if (a0_0 == (3 : Int)) = true then if (a0_0 == (5 : Int)) = true then some ((true, ()), (((), (), (), (), (), (), (), (), (), ()), ())) else some (((a0_8.toList == (⟨#[]⟩ : ByteArray).toList), ()), (((), (), (), (), (), (), (), (), (), ()), ())) else if (a0_5 == (0 : Int)) = true then if (a0_0 == (5 : Int)) = true then some ((true, ()), (((), (), (), (), (), (), (), (), (), ()), ())) else some (((a0_8.toList == (⟨#[]⟩ : ByteArray).toList), ()), (((), (), (), (), (), (), (), (), (), ()), ())) else some ((false, ()), (((), (), (), (), (), (), (), (), (), ()), ())) else if (a0_0 == (3 : Int)) = true then if (a0_0 == (5 : Int)) = true then some ((true, ()), (((), (), (), (), (), (), (), (), (), ()), ())) else some (((a0_8.toList == (⟨#[]⟩ : ByteArray).toList), ()), (((), (), (), (), (), (), (), (), (), ()), ())) else if (a0_5 == (0 : Int)) = true then if (a0_0 == (5 : Int)) = true then some ((true, ()), (((), (), (), (), (), (), (), (), (), ()), ())) else some (((a0_8.toList == (⟨#[]⟩ : ByteArray).toList), ()), (((), (), (), (), (), (), (), (), (), ()), ())) else some ((false, ()), (((), (), (), (), (), (), (), (), (), ()), ())) := by kernel_rfl
theorem F43_eq (k : Nat) (a0_0 : Bool) (a0_1 : List Int) (a0_2 : Int) : F43 (k + 2) a0_0 a0_1 a0_2 =
    (F57 k a0_0 a0_1).bind fun r1 => if r1.1.1 = true then (F58 k a0_1).bind fun r2 => if (decide (r2.1.1 ≤ (30 : Int))) = true then (F28 k a0_2 (0 : Int) (12 : Int)).bind fun r3 => some ((r3.1.1, ()), (((), (), (), ()), ())) else some ((false, ()), (((), (), (), ()), ())) else some ((false, ()), (((), (), (), ()), ())) := by kernel_rfl
theorem F44_eq (k : Nat) (a0 : Int) : F44 (k + 2) a0 =
    (F28 k a0 (1 : Int) (3652059 : Int)).bind fun r1 => some ((r1.1.1, ()), ((), ())) := by kernel_rfl
theorem F45_eq (k : Nat) (a0_0 : Int) (a0_1 : Int) : F45 (k + 2) a0_0 a0_1 =
    (F28 k a0_0 (-120000 : Int) (120000 : Int)).bind fun r1 => if r1.1.1 = true then (F28 k a0_1 (-4000000 : Int) (4000000 : Int)).bind fun r2 => some ((r2.1.1, ()), (((), (), ()), ())) else some ((false, ()), (((), (), ()), ())) := by kernel_rfl
theorem F46_eq (k : Nat) (a0 : ByteArray) : F46 (k + 2) a0 =
    F46c2 k a0 (0 : Int) := by kernel_rfl
theorem F46c2_eq (k : Nat) (x0 : ByteArray) (x3 : Int) : F46c2 (k + 1) x0 x3 =
    if (decide (x3 < (x0.size : Int))) = true then if (decide (0 ≤ x3)) = true then (x0[x3.toNat]?).bind fun u1 => if (decide ((u1.toNat : Int) < (32 : Int))) = true then some ((false, ()), ((), ())) else if (decide (0 ≤ x3)) = true then (x0[x3.toNat]?).bind fun u2 => if (decide ((u2.toNat : Int) > (126 : Int))) = true then some ((false, ()), ((), ())) else F46c2 k x0 (IntKind.i64.wrap (x3 + (1 : Int))) else none else none else some ((decide ((x0.size : Int) ≤ (12 : Int)), ()), ((), ())) := by kernel_rfl
theorem F47_eq (k : Nat) (a0 : Int) (a1 : Int) : F47 (k + 2) a0 a1 =
    if (decide (a0 < a1)) = true then some (((-1 : Int), ()), ((), (), ())) else if (decide (a0 > a1)) = true then some (((1 : Int), ()), ((), (), ())) else some (((0 : Int), ()), ((), (), ())) := by kernel_rfl
theorem F48_eq (k : Nat) (a0_0 : Int) (a0_1 : Bool) (a0_2 : Bool) (a0_3 : List Int) (a0_4 : Int) (a0_5 : Int) (a0_6 : Int) (a0_7 : Int) (a0_8 : ByteArray) (a1_0 : Int) (a1_1 : Bool) (a1_2 : Bool) (a1_3 : List Int) (a1_4 : Int) (a1_5 : Int) (a1_6 : Int) (a1_7 : Int) (a1_8 : ByteArray) : F48 (k + 2) a0_0 a0_1 a0_2 a0_3 a0_4 a0_5 a0_6 a0_7 a0_8 a1_0 a1_1 a1_2 a1_3 a1_4 a1_5 a1_6 a1_7 a1_8 =
    if (a0_0 == (1 : Int)) = true then (F59 k a0_1).bind fun r1 => (F59 k a1_1).bind fun r2 => (F47 k r1.1.1 r2.1.1).bind fun r3 => some ((r3.1.1, ()), (((), (), (), (), (), (), (), (), (), ()), ((), (), (), (), (), (), (), (), (), ()), ())) else if (a0_0 == (2 : Int)) = true then (F60 k a0_2 a0_3 a0_4 a1_2 a1_3 a1_4).bind fun r4 => some ((r4.1.1, ()), (((), (), (), (), (), (), (), (), (), ()), ((), (), (), (), (), (), (), (), (), ()), ())) else if (a0_0 == (3 : Int)) = true then (F47 k a0_5 a1_5).bind fun r5 => some ((r5.1.1, ()), (((), (), (), (), (), (), (), (), (), ()), ((), (), (), (), (), (), (), (), (), ()), ())) else if (a0_0 == (4 : Int)) = true then if (a0_6 != a1_6) = true then (F47 k a0_6 a1_6).bind fun r6 => some ((r6.1.1, ()), (((), (), (), (), (), (), (), (), (), ()), ((), (), (), (), (), (), (), (), (), ()), ())) else (F47 k a0_7 a1_7).bind fun r7 => some ((r7.1.1, ()), (((), (), (), (), (), (), (), (), (), ()), ((), (), (), (), (), (), (), (), (), ()), ())) else (F61 k a0_8 a1_8).bind fun r8 => some ((r8.1.1, ()), (((), (), (), (), (), (), (), (), (), ()), ((), (), (), (), (), (), (), (), (), ()), ())) := by kernel_rfl
theorem F49_eq (k : Nat) (a0_0 : Bool) (a0_1 : List Int) : F49 (k + 2) a0_0 a0_1 =
    (F7 k a0_1).bind fun r1 => some (((a0_0, r1.1.1, ()), ()), (((), (), ()), ())) := by kernel_rfl
theorem F50_eq (k : Nat) (a0_0 : Bool) (a0_1 : List Int) : F50 (k + 2) a0_0 a0_1 =
    if (decide ((a0_1.length : Int) ≤ (16 : Int))) = true then if ((a0_1.length : Int) == (0 : Int)) = true then if (!a0_0) = true then (F63021 k a0_1).bind fun r1 => some (((!r1.1.1), ()), (((), (), ()), ())) else if (decide ((a0_1.length : Int) > (0 : Int))) = true then if (decide (0 ≤ (IntKind.i64.wrap ((a0_1.length : Int) - (1 : Int))))) = true then (a0_1[(IntKind.i64.wrap ((a0_1.length : Int) - (1 : Int))).toNat]?).bind fun y2 => if (y2 != (0 : Int)) = true then (F63021 k a0_1).bind fun r3 => some (((!r3.1.1), ()), (((), (), ()), ())) else some ((false, ()), (((), (), ()), ())) else none else some ((false, ()), (((), (), ()), ())) else if (decide ((a0_1.length : Int) > (0 : Int))) = true then if (decide (0 ≤ (IntKind.i64.wrap ((a0_1.length : Int) - (1 : Int))))) = true then (a0_1[(IntKind.i64.wrap ((a0_1.length : Int) - (1 : Int))).toNat]?).bind fun y4 => if (y4 != (0 : Int)) = true then (F63021 k a0_1).bind fun r5 => some (((!r5.1.1), ()), (((), (), ()), ())) else some ((false, ()), (((), (), ()), ())) else none else some ((false, ()), (((), (), ()), ())) else some ((false, ()), (((), (), ()), ())) := by kernel_rfl
theorem F51_eq (k : Nat) (a0 : List Int) : F51 (k + 2) a0 =
    if ((a0.length : Int) == (0 : Int)) = true then some (((0 : Int), ()), ((), ())) else (F63 k a0).bind fun r1 => some (((r1.1.1.size : Int), ()), ((), ())) := by kernel_rfl
theorem F52_eq (k : Nat) (a0 : Int) (a1 : Int) : F52 (k + 2) a0 a1 =
    (F64 k a0).bind fun r1 => (F64 k a1).bind fun r2 => if r1.1.1 = true then if r2.1.1 = true then some (((0 : Int), ()), ((), (), ())) else some (((-1 : Int), ()), ((), (), ())) else if r2.1.1 = true then some (((1 : Int), ()), ((), (), ())) else if (decide (a0 < a1)) = true then some (((-1 : Int), ()), ((), (), ())) else if (decide (a0 > a1)) = true then some (((1 : Int), ()), ((), (), ())) else some (((0 : Int), ()), ((), (), ())) := by kernel_rfl
theorem F53_eq (k : Nat) (a0_0 : Int) (a0_1 : Bool) (a0_2 : Bool) (a0_3 : List Int) (a0_4 : Int) (a0_5 : Int) (a0_6 : Int) (a0_7 : Int) (a0_8 : ByteArray) (a1_0 : Int) (a1_1 : Bool) (a1_2 : Bool) (a1_3 : List Int) (a1_4 : Int) (a1_5 : Int) (a1_6 : Int) (a1_7 : Int) (a1_8 : ByteArray) : F53 (k + 2) a0_0 a0_1 a0_2 a0_3 a0_4 a0_5 a0_6 a0_7 a0_8 a1_0 a1_1 a1_2 a1_3 a1_4 a1_5 a1_6 a1_7 a1_8 =
    if (a0_0 == (1 : Int)) = true then (F65 k a0_1).bind fun r1 => (F65 k a1_1).bind fun r2 => some (((IntKind.i64.wrap (r1.1.1 - r2.1.1)), ()), (((), (), (), (), (), (), (), (), (), ()), ((), (), (), (), (), (), (), (), (), ()), ())) else if (a0_0 == (2 : Int)) = true then (F66 k a0_2 a0_3 a0_4 a1_2 a1_3 a1_4).bind fun r3 => some ((r3.1.1, ()), (((), (), (), (), (), (), (), (), (), ()), ((), (), (), (), (), (), (), (), (), ()), ())) else if (a0_0 == (3 : Int)) = true then (F52 k a0_5 a1_5).bind fun r4 => some ((r4.1.1, ()), (((), (), (), (), (), (), (), (), (), ()), ((), (), (), (), (), (), (), (), (), ()), ())) else if (a0_0 == (4 : Int)) = true then (F52 k a0_6 a1_6).bind fun r5 => (F52 k a0_7 a1_7).bind fun r6 => (F67 k [r5.1.1, r6.1.1]).bind fun r7 => some ((r7.1.1, ()), (((), (), (), (), (), (), (), (), (), ()), ((), (), (), (), (), (), (), (), (), ()), ())) else if (a0_0 == (5 : Int)) = true then (F68 k a0_8 a1_8).bind fun r8 => some ((r8.1.1, ()), (((), (), (), (), (), (), (), (), (), ()), ((), (), (), (), (), (), (), (), (), ()), ())) else some (((0 : Int), ()), (((), (), (), (), (), (), (), (), (), ()), ((), (), (), (), (), (), (), (), (), ()), ())) := by kernel_rfl
theorem F54_eq (k : Nat) (a0_0 : Bool) (a0_1 : List Int) (a1_0 : Bool) (a1_1 : List Int) : F54 (k + 2) a0_0 a0_1 a1_0 a1_1 =
    if (!(a0_0 == a1_0)) = true then some ((false, ()), (((), (), ()), ((), (), ()), ())) else (F11 k a0_1 a1_1).bind fun r1 => if (!r1.1.1) = true then some ((false, ()), (((), (), ()), ((), (), ()), ())) else some ((true, ()), (((), (), ()), ((), (), ()), ())) := by kernel_rfl
theorem F55_eq (k : Nat) (a0 : List Int) (a1 : Int) : F55 (k + 2) a0 a1 =
    if (decide ((IntKind.i64.wrap (a1 - (a0.length : Int))) < (0 : Int))) = true then some (((-1 : Int), ()), ((), (), ())) else some (((IntKind.i64.wrap (a1 - (a0.length : Int))), ()), ((), (), ())) := by kernel_rfl
theorem F56_eq (k : Nat) (a0_0 : Bool) (a0_1 : List Int) (a0_2 : Int) : F56 (k + 2) a0_0 a0_1 a0_2 =
    if (!a0_0) = true then if ((a0_1.length : Int) == (0 : Int)) = true then some (((a0_2 == (0 : Int)), ()), (((), (), (), ()), ())) else some ((false, ()), (((), (), (), ()), ())) else some ((false, ()), (((), (), (), ()), ())) := by kernel_rfl
theorem F57_eq (k : Nat) (a0_0 : Bool) (a0_1 : List Int) : F57 (k + 2) a0_0 a0_1 =
    if (decide ((a0_1.length : Int) > (16 : Int))) = true then some ((false, ()), (((), (), ()), ())) else if a0_0 = true then if ((a0_1.length : Int) == (0 : Int)) = true then some ((false, ()), (((), (), ()), ())) else F57c4 k a0_0 a0_1 (0 : Int) else F57c4 k a0_0 a0_1 (0 : Int) := by kernel_rfl
theorem F57c4_eq (k : Nat) (x1_0 : Bool) (x1_1 : List Int) (x3 : Int) : F57c4 (k + 1) x1_0 x1_1 x3 =
    if (decide (x3 < (x1_1.length : Int))) = true then if (decide (0 ≤ x3)) = true then (x1_1[x3.toNat]?).bind fun y1 => (F28 k y1 (0 : Int) (9999 : Int)).bind fun r2 => if (!r2.1.1) = true then some ((false, ()), (((), (), ()), ())) else F57c4 k x1_0 x1_1 (IntKind.i64.wrap (x3 + (1 : Int))) else none else if ((x1_1.length : Int) == (0 : Int)) = true then some ((true, ()), (((), (), ()), ())) else if (decide (0 ≤ (IntKind.i64.wrap ((x1_1.length : Int) - (1 : Int))))) = true then (x1_1[(IntKind.i64.wrap ((x1_1.length : Int) - (1 : Int))).toNat]?).bind fun y3 => some (((y3 != (0 : Int)), ()), (((), (), ()), ())) else none := by kernel_rfl
theorem F58_eq (k : Nat) (a0 : List Int) : F58 (k + 2) a0 =
    if ((a0.length : Int) == (0 : Int)) = true then some (((0 : Int), ()), ((), ())) else (F69 k a0).bind fun r1 => some (((r1.1.1.size : Int), ()), ((), ())) := by kernel_rfl
theorem F59_eq (k : Nat) (a0 : Bool) : F59 (k + 2) a0 =
    if a0 = true then some (((1 : Int), ()), ((), ())) else some (((0 : Int), ()), ((), ())) := by kernel_rfl
theorem F60_eq (k : Nat) (a0_0 : Bool) (a0_1 : List Int) (a0_2 : Int) (a1_0 : Bool) (a1_1 : List Int) (a1_2 : Int) : F60 (k + 2) a0_0 a0_1 a0_2 a1_0 a1_1 a1_2 =
    (F70 k a0_2 a1_2).bind fun r1 => (F71 k a0_0 a0_1 a0_2 r1.1.1).bind fun r2 => (F71 k a1_0 a1_1 a1_2 r1.1.1).bind fun r3 => (F72 k a0_0 r2.1.1 a1_0 r3.1.1).bind fun r4 => some ((r4.1.1, ()), (((), (), (), ()), ((), (), (), ()), ())) := by kernel_rfl
theorem F61_eq (k : Nat) (a0 : ByteArray) (a1 : ByteArray) : F61 (k + 2) a0 a1 =
    if (Op.bytesLess a0.toList a1.toList) = true then some (((-1 : Int), ()), ((), (), ())) else if (!(Op.bytesLess a0.toList a1.toList || a0.toList == a1.toList)) = true then some (((1 : Int), ()), ((), (), ())) else some (((0 : Int), ()), ((), (), ())) := by kernel_rfl
theorem F62_eq (k : Nat) (a0 : Int) : F62 (k + 2) a0 =
    (F23 k a0 (0 : Int) (9999 : Int)).bind fun r1 => some (((!r1.1.1), ()), ((), ())) := by kernel_rfl
theorem F63_eq (k : Nat) (a0 : List Int) : F63 (k + 1) a0 = textR (a0, ()) := by kernel_rfl
theorem F64_eq (k : Nat) (a0 : Int) : F64 (k + 2) a0 =
    some (((a0 != a0), ()), ((), ())) := by kernel_rfl
theorem F65_eq (k : Nat) (a0 : Bool) : F65 (k + 2) a0 =
    if a0 = true then some (((1 : Int), ()), ((), ())) else some (((0 : Int), ()), ((), ())) := by kernel_rfl
theorem F66_eq (k : Nat) (a0_0 : Bool) (a0_1 : List Int) (a0_2 : Int) (a1_0 : Bool) (a1_1 : List Int) (a1_2 : Int) : F66 (k + 2) a0_0 a0_1 a0_2 a1_0 a1_1 a1_2 =
    (F78 k a0_0 a0_1 a0_2 (if a1_2 > a0_2 then a1_2 else a0_2)).bind fun r1 => (F78 k a1_0 a1_1 a1_2 (if a1_2 > a0_2 then a1_2 else a0_2)).bind fun r2 => (F80 k r2.1.1.1 r2.1.1.2.1).bind fun r3 => (F79 k r1.1.1.1 r1.1.1.2.1 r3.1.1.1 r3.1.1.2.1).bind fun r4 => (F81 k r4.1.1.1 r4.1.1.2.1).bind fun r5 => some ((r5.1.1, ()), (((), (), (), ()), ((), (), (), ()), ())) := by kernel_rfl
theorem F67_eq (k : Nat) (a0 : List Int) : F67 (k + 2) a0 =
    F67c3 k (0 : Int) a0 (a0.length : Int) (0 : Int) := by kernel_rfl
theorem F67c3_eq (k : Nat) (x3 : Int) (x6 : List Int) (x7 : Int) (x8 : Int) : F67c3 (k + 1) x3 x6 x7 x8 =
    if (decide (x8 < x7)) = true then if (decide (0 ≤ x8)) = true then (x6[x8.toNat]?).bind fun y1 => if (y1 != x3) = true then some ((y1, ()), ((), ())) else F67c3 k x3 x6 x7 (IntKind.i64.wrap (x8 + (1 : Int))) else none else some ((x3, ()), ((), ())) := by kernel_rfl
theorem F68_eq (k : Nat) (a0 : ByteArray) (a1 : ByteArray) : F68 (k + 1) a0 a1 = compareR (a0, a1, ()) := by kernel_rfl
theorem F69_eq (k : Nat) (a0 : List Int) : F69 (k + 2) a0 =
    if ((a0.length : Int) == (0 : Int)) = true then some (((⟨#[48]⟩ : ByteArray), ()), ((), ())) else if (decide (0 ≤ (IntKind.i64.wrap ((a0.length : Int) - (1 : Int))))) = true then (a0[(IntKind.i64.wrap ((a0.length : Int) - (1 : Int))).toNat]?).bind fun y1 => (F83 k y1).bind fun r2 => F69c5 k a0 r2.1.1 (IntKind.i64.wrap ((a0.length : Int) - (2 : Int))) else none := by kernel_rfl
theorem F69c5_eq (k : Nat) (x0 : List Int) (x3 : ByteArray) (x4 : Int) : F69c5 (k + 1) x0 x3 x4 =
    if (decide (x4 ≥ (0 : Int))) = true then if (decide (0 ≤ x4)) = true then (x0[x4.toNat]?).bind fun y3 => (F84 k y3 (4 : Int)).bind fun r4 => if (Nat.ble (x3.size + r4.1.1.size) 9223372036854775807) = true then F69c5 k x0 (x3 ++ r4.1.1) (IntKind.i64.wrap (x4 - (1 : Int))) else none else none else some ((x3, ()), ((), ())) := by kernel_rfl
theorem F70_eq (k : Nat) (a0 : Int) (a1 : Int) : F70 (k + 2) a0 a1 =
    if (decide (a0 > a1)) = true then some ((a0, ()), ((), (), ())) else some ((a1, ()), ((), (), ())) := by kernel_rfl
theorem F71_eq (k : Nat) (a0_0 : Bool) (a0_1 : List Int) (a0_2 : Int) (a1 : Int) : F71 (k + 2) a0_0 a0_1 a0_2 a1 =
    (F86 k (IntKind.i64.wrap (a1 - a0_2))).bind fun r1 => (F85 k a0_1 r1.1.1).bind fun r2 => some ((r2.1.1, ()), (((), (), (), ()), (), ())) := by kernel_rfl
theorem F72_eq (k : Nat) (a0_0 : Bool) (a0_1 : List Int) (a1_0 : Bool) (a1_1 : List Int) : F72 (k + 2) a0_0 a0_1 a1_0 a1_1 =
    if (!(a0_0 == a1_0)) = true then if a0_0 = true then some (((-1 : Int), ()), (((), (), ()), ((), (), ()), ())) else some (((1 : Int), ()), (((), (), ()), ((), (), ()), ())) else if a0_0 = true then (F87 k a1_1 a0_1).bind fun r1 => some ((r1.1.1, ()), (((), (), ()), ((), (), ()), ())) else (F87 k a0_1 a1_1).bind fun r2 => some ((r2.1.1, ()), (((), (), ()), ((), (), ()), ())) := by kernel_rfl
theorem F78_eq (k : Nat) (a0_0 : Bool) (a0_1 : List Int) (a0_2 : Int) (a1 : Int) : F78 (k + 2) a0_0 a0_1 a0_2 a1 =
    (F95 k a0_0 a0_1).bind fun r1 => (F97 k (IntKind.i64.wrap (a1 - a0_2))).bind fun r2 => (F96 k r1.1.1.2.1 r2.1.1).bind fun r3 => some (((r1.1.1.1, r3.1.1, ()), ()), (((), (), (), ()), (), ())) := by kernel_rfl
theorem F79_eq (k : Nat) (a0_0 : Bool) (a0_1 : List Int) (a1_0 : Bool) (a1_1 : List Int) : F79 (k + 2) a0_0 a0_1 a1_0 a1_1 =
    if (a0_0 == a1_0) = true then (F98 k a0_1 a1_1).bind fun r1 => some (((a0_0, r1.1.1, ()), ()), (((), (), ()), ((), (), ()), ())) else (F99 k a0_1 a1_1).bind fun r2 => if (decide (r2.1.1 ≥ (0 : Int))) = true then (F100 k a0_1 a1_1).bind fun r3 => some (((a0_0, r3.1.1, ()), ()), (((), (), ()), ((), (), ()), ())) else (F100 k a1_1 a0_1).bind fun r4 => some (((a1_0, r4.1.1, ()), ()), (((), (), ()), ((), (), ()), ())) := by kernel_rfl
theorem F80_eq (k : Nat) (a0_0 : Bool) (a0_1 : List Int) : F80 (k + 2) a0_0 a0_1 =
    some ((((!a0_0), a0_1, ()), ()), (((), (), ()), ())) := by kernel_rfl
theorem F81_eq (k : Nat) (a0_0 : Bool) (a0_1 : List Int) : F81 (k + 2) a0_0 a0_1 =
    if ((a0_1.length : Int) == (0 : Int)) = true then some (((0 : Int), ()), (((), (), ()), ())) else if a0_0 = true then some (((-1 : Int), ()), (((), (), ()), ())) else some (((1 : Int), ()), (((), (), ()), ())) := by kernel_rfl
theorem F83_eq (k : Nat) (a0 : Int) : F83 (k + 2) a0 =
    if (decide (a0 < (-9223372036854775807 : Int))) = true then some (((⟨#[45, 57, 50, 50, 51, 51, 55, 50, 48, 51, 54, 56, 53, 52, 55, 55, 53, 56, 48, 56]⟩ : ByteArray), ()), ((), ())) else if (decide (a0 < (0 : Int))) = true then (F83 k (IntKind.i64.wrap (0 - a0))).bind fun r1 => if (Nat.ble ((⟨#[45]⟩ : ByteArray).size + r1.1.1.size) 9223372036854775807) = true then some ((((⟨#[45]⟩ : ByteArray) ++ r1.1.1), ()), ((), ())) else none else if (decide (a0 < (10 : Int))) = true then some (((bytesOf [(IntKind.u8.wrap (IntKind.i64.wrap ((48 : Int) + a0)))]), ()), ((), ())) else (F83 k (IntKind.i64.wrap (a0.tdiv (10 : Int)))).bind fun r2 => if (Nat.ble (r2.1.1.size + (bytesOf [(IntKind.u8.wrap (IntKind.i64.wrap ((48 : Int) + (a0.tmod (10 : Int)))))]).size) 9223372036854775807) = true then some (((r2.1.1 ++ (bytesOf [(IntKind.u8.wrap (IntKind.i64.wrap ((48 : Int) + (a0.tmod (10 : Int)))))])), ()), ((), ())) else none := by kernel_rfl
theorem F84_eq (k : Nat) (a0 : Int) (a1 : Int) : F84 (k + 2) a0 a1 =
    (F83 k a0).bind fun r1 => F84c2 k a1 r1.1.1 := by kernel_rfl
theorem F84c2_eq (k : Nat) (x1 : Int) (x5 : ByteArray) : F84c2 (k + 1) x1 x5 =
    if (decide ((x5.size : Int) < x1)) = true then if (Nat.ble ((⟨#[48]⟩ : ByteArray).size + x5.size) 9223372036854775807) = true then F84c2 k x1 ((⟨#[48]⟩ : ByteArray) ++ x5) else none else some ((x5, ()), ((), (), ())) := by kernel_rfl
theorem F85_eq (k : Nat) (a0 : List Int) (a1 : List Int) : F85 (k + 2) a0 a1 =
    if (decide (0 ≤ (IntKind.i64.wrap ((a0.length : Int) + (a1.length : Int)))) && decide ((IntKind.i64.wrap ((a0.length : Int) + (a1.length : Int))) ≤ (IntKind.i64.wrap ((a0.length : Int) + (a1.length : Int)))) && decide ((IntKind.i64.wrap ((a0.length : Int) + (a1.length : Int))) ≤ (17592186044416 : Int))) = true then F85c3 k a0 a1 (List.replicate (IntKind.i64.wrap ((a0.length : Int) + (a1.length : Int))).toNat (0 : Int)) (0 : Int) else none := by kernel_rfl
theorem F85c3_eq (k : Nat) (x0 : List Int) (x1 : List Int) (x5 : List Int) (x6 : Int) : F85c3 (k + 1) x0 x1 x5 x6 =
    if (decide (x6 < (x0.length : Int))) = true then F85c7 k x0 x1 x5 x6 (0 : Int) (0 : Int) else (F103 k x5).bind fun r1 => some ((r1.1.1, ()), ((), (), ())) := by kernel_rfl
theorem F85c7_eq (k : Nat) (x0 : List Int) (x1 : List Int) (x5 : List Int) (x6 : Int) (x7 : Int) (x8 : Int) : F85c7 (k + 1) x0 x1 x5 x6 x7 x8 =
    if (decide (x8 < (x1.length : Int))) = true then if (decide (0 ≤ (IntKind.i64.wrap (x6 + x8))) && decide ((IntKind.i64.wrap (x6 + x8)) < (x5.length : Int))) = true then (x5[(IntKind.i64.wrap (x6 + x8)).toNat]?).bind fun y2 => if (decide (0 ≤ x6)) = true then (x0[x6.toNat]?).bind fun y3 => (F102 k x1 x8).bind fun r4 => if (decide (0 ≤ (IntKind.i64.wrap (x6 + x8))) && decide ((IntKind.i64.wrap (x6 + x8)) < (x5.length : Int))) = true then (x5[(IntKind.i64.wrap (x6 + x8)).toNat]?).bind fun y5 => F85c7 k x0 x1 (x5.set ((IntKind.i64.wrap (x6 + x8)).toNat) ((IntKind.i64.wrap ((IntKind.i64.wrap (y2 + (IntKind.i64.wrap (y3 * r4.1.1)))) + x7)).tmod (10000 : Int))) x6 (IntKind.i64.wrap ((IntKind.i64.wrap ((IntKind.i64.wrap (y2 + (IntKind.i64.wrap (y3 * r4.1.1)))) + x7)).tdiv (10000 : Int))) (IntKind.i64.wrap (x8 + (1 : Int))) else none else none else none else if (decide (x7 > (0 : Int))) = true then if (decide (0 ≤ (IntKind.i64.wrap (x6 + x8))) && decide ((IntKind.i64.wrap (x6 + x8)) < (x5.length : Int))) = true then (x5[(IntKind.i64.wrap (x6 + x8)).toNat]?).bind fun y6 => if (decide (0 ≤ x6)) = true then (x0[x6.toNat]?).bind fun y7 => (F102 k x1 x8).bind fun r8 => if (decide (0 ≤ (IntKind.i64.wrap (x6 + x8))) && decide ((IntKind.i64.wrap (x6 + x8)) < (x5.length : Int))) = true then (x5[(IntKind.i64.wrap (x6 + x8)).toNat]?).bind fun y9 => F85c7 k x0 x1 (x5.set ((IntKind.i64.wrap (x6 + x8)).toNat) ((IntKind.i64.wrap ((IntKind.i64.wrap (y6 + (IntKind.i64.wrap (y7 * r8.1.1)))) + x7)).tmod (10000 : Int))) x6 (IntKind.i64.wrap ((IntKind.i64.wrap ((IntKind.i64.wrap (y6 + (IntKind.i64.wrap (y7 * r8.1.1)))) + x7)).tdiv (10000 : Int))) (IntKind.i64.wrap (x8 + (1 : Int))) else none else none else none else F85c3 k x0 x1 x5 (IntKind.i64.wrap (x6 + (1 : Int))) := by kernel_rfl
theorem F86_eq (k : Nat) (a0 : Int) : F86 (k + 2) a0 =
    F86c2 k a0 ([] : List Int) := by kernel_rfl
theorem F86c2_eq (k : Nat) (x0 : Int) (x3 : List Int) : F86c2 (k + 1) x0 x3 =
    if (decide (x0 ≥ (4 : Int))) = true then if (decide (x3.length + [(0 : Int)].length ≤ 17592186044416)) = true then F86c2 k (IntKind.i64.wrap (x0 - (4 : Int))) (x3 ++ [(0 : Int)]) else none else F86c6 k x0 x3 (1 : Int) := by kernel_rfl
theorem F86c6_eq (k : Nat) (x0 : Int) (x3 : List Int) (x4 : Int) : F86c6 (k + 1) x0 x3 x4 =
    if (decide (x0 > (0 : Int))) = true then F86c6 k (IntKind.i64.wrap (x0 - (1 : Int))) x3 (IntKind.i64.wrap (x4 * (10 : Int))) else if (decide (x3.length + [x4].length ≤ 17592186044416)) = true then some (((x3 ++ [x4]), ()), ((), ())) else none := by kernel_rfl
theorem F87_eq (k : Nat) (a0 : List Int) (a1 : List Int) : F87 (k + 2) a0 a1 =
    if ((a0.length : Int) != (a1.length : Int)) = true then if (decide ((a0.length : Int) < (a1.length : Int))) = true then some (((-1 : Int), ()), ((), (), ())) else some (((1 : Int), ()), ((), (), ())) else F87c6 k a0 a1 (IntKind.i64.wrap ((a0.length : Int) - (1 : Int))) := by kernel_rfl
theorem F87c6_eq (k : Nat) (x0 : List Int) (x1 : List Int) (x5 : Int) : F87c6 (k + 1) x0 x1 x5 =
    if (decide (x5 ≥ (0 : Int))) = true then if (decide (0 ≤ x5)) = true then (x0[x5.toNat]?).bind fun y1 => if (decide (0 ≤ x5)) = true then (x1[x5.toNat]?).bind fun y2 => if (decide (y1 < y2)) = true then some (((-1 : Int), ()), ((), (), ())) else if (decide (0 ≤ x5)) = true then (x0[x5.toNat]?).bind fun y3 => if (decide (0 ≤ x5)) = true then (x1[x5.toNat]?).bind fun y4 => if (decide (y3 > y4)) = true then some (((1 : Int), ()), ((), (), ())) else F87c6 k x0 x1 (IntKind.i64.wrap (x5 - (1 : Int))) else none else none else none else none else some (((0 : Int), ()), ((), (), ())) := by kernel_rfl
theorem F95_eq (k : Nat) (a0_0 : Bool) (a0_1 : List Int) : F95 (k + 2) a0_0 a0_1 =
    some (((a0_0, a0_1, ()), ()), (((), (), ()), ())) := by kernel_rfl
theorem F96_eq (k : Nat) (a0 : List Int) (a1 : List Int) : F96 (k + 2) a0 a1 =
    if (decide (0 ≤ (IntKind.i64.wrap ((IntKind.i64.wrap ((a0.length : Int) + (a1.length : Int))) + (1 : Int)))) && decide ((IntKind.i64.wrap ((IntKind.i64.wrap ((a0.length : Int) + (a1.length : Int))) + (1 : Int))) ≤ (IntKind.i64.wrap ((IntKind.i64.wrap ((a0.length : Int) + (a1.length : Int))) + (1 : Int)))) && decide ((IntKind.i64.wrap ((IntKind.i64.wrap ((a0.length : Int) + (a1.length : Int))) + (1 : Int))) ≤ (17592186044416 : Int))) = true then F96c3 k a1 (List.replicate (IntKind.i64.wrap ((IntKind.i64.wrap ((a0.length : Int) + (a1.length : Int))) + (1 : Int))).toNat (0 : Int)) a0 (a0.length : Int) (0 : Int) else none := by kernel_rfl
theorem F96c3_eq (k : Nat) (x1 : List Int) (x5 : List Int) (x19 : List Int) (x20 : Int) (x21 : Int) : F96c3 (k + 1) x1 x5 x19 x20 x21 =
    if (decide (x21 < x20)) = true then if (decide (0 ≤ x21)) = true then (x19[x21.toNat]?).bind fun y1 => F96c7 k x1 x5 x21 y1 (0 : Int) x19 x20 x21 x1 (x1.length : Int) (0 : Int) else none else (F110 k x5).bind fun r2 => some ((r2.1.1, ()), ((), (), ())) := by kernel_rfl
theorem F96c7_eq (k : Nat) (x1 : List Int) (x5 : List Int) (x6 : Int) (x7 : Int) (x8 : Int) (x19 : List Int) (x20 : Int) (x21 : Int) (x26 : List Int) (x27 : Int) (x28 : Int) : F96c7 (k + 1) x1 x5 x6 x7 x8 x19 x20 x21 x26 x27 x28 =
    if (decide (x28 < x27)) = true then if (decide (0 ≤ x28)) = true then (x26[x28.toNat]?).bind fun y3 => if (decide (0 ≤ (IntKind.i64.wrap (x6 + x28))) && decide ((IntKind.i64.wrap (x6 + x28)) < (x5.length : Int))) = true then (x5[(IntKind.i64.wrap (x6 + x28)).toNat]?).bind fun y4 => if (decide (0 ≤ (IntKind.i64.wrap (x6 + x28))) && decide ((IntKind.i64.wrap (x6 + x28)) < (x5.length : Int))) = true then (x5[(IntKind.i64.wrap (x6 + x28)).toNat]?).bind fun y5 => F96c7 k x1 (x5.set ((IntKind.i64.wrap (x6 + x28)).toNat) ((IntKind.i64.wrap ((IntKind.i64.wrap (y4 + (IntKind.i64.wrap (x7 * y3)))) + x8)).tmod (10000 : Int))) x6 x7 (IntKind.i64.wrap ((IntKind.i64.wrap ((IntKind.i64.wrap (y4 + (IntKind.i64.wrap (x7 * y3)))) + x8)).tdiv (10000 : Int))) x19 x20 x21 x26 x27 (IntKind.i64.wrap (x28 + (1 : Int))) else none else none else none else if (decide (0 ≤ (IntKind.i64.wrap (x6 + (x1.length : Int)))) && decide ((IntKind.i64.wrap (x6 + (x1.length : Int))) < (x5.length : Int))) = true then (x5[(IntKind.i64.wrap (x6 + (x1.length : Int))).toNat]?).bind fun y6 => if (decide (0 ≤ (IntKind.i64.wrap (x6 + (x1.length : Int)))) && decide ((IntKind.i64.wrap (x6 + (x1.length : Int))) < (x5.length : Int))) = true then (x5[(IntKind.i64.wrap (x6 + (x1.length : Int))).toNat]?).bind fun y7 => F96c3 k x1 (x5.set ((IntKind.i64.wrap (x6 + (x1.length : Int))).toNat) (IntKind.i64.wrap (y6 + x8))) x19 x20 (IntKind.i64.wrap (x21 + (1 : Int))) else none else none := by kernel_rfl
theorem F97_eq (k : Nat) (a0 : Int) : F97 (k + 2) a0 =
    F97c3 k [(1 : Int)] a0 (0 : Int) := by kernel_rfl
theorem F97c3_eq (k : Nat) (x3 : List Int) (x5 : Int) (x6 : Int) : F97c3 (k + 1) x3 x5 x6 =
    if (decide (x6 < x5)) = true then (F96 k x3 [(10 : Int)]).bind fun r1 => F97c3 k r1.1.1 x5 (IntKind.i64.wrap (x6 + (1 : Int))) else some ((x3, ()), ((), ())) := by kernel_rfl
theorem F98_eq (k : Nat) (a0 : List Int) (a1 : List Int) : F98 (k + 2) a0 a1 =
    if (decide (0 ≤ (IntKind.i64.wrap ((if (a1.length : Int) > (a0.length : Int) then (a1.length : Int) else (a0.length : Int)) + (1 : Int)))) && decide ((IntKind.i64.wrap ((if (a1.length : Int) > (a0.length : Int) then (a1.length : Int) else (a0.length : Int)) + (1 : Int))) ≤ (IntKind.i64.wrap ((if (a1.length : Int) > (a0.length : Int) then (a1.length : Int) else (a0.length : Int)) + (1 : Int)))) && decide ((IntKind.i64.wrap ((if (a1.length : Int) > (a0.length : Int) then (a1.length : Int) else (a0.length : Int)) + (1 : Int))) ≤ (17592186044416 : Int))) = true then F98c4 k (a0.take (List.replicate (IntKind.i64.wrap ((if (a1.length : Int) > (a0.length : Int) then (a1.length : Int) else (a0.length : Int)) + (1 : Int))).toNat (0 : Int)).length ++ (List.replicate (IntKind.i64.wrap ((if (a1.length : Int) > (a0.length : Int) then (a1.length : Int) else (a0.length : Int)) + (1 : Int))).toNat (0 : Int)).drop a0.length) a1 (a1.length : Int) (0 : Int) else none := by kernel_rfl
theorem F98c4_eq (k : Nat) (x5 : List Int) (x19 : List Int) (x20 : Int) (x21 : Int) : F98c4 (k + 1) x5 x19 x20 x21 =
    if (decide (x21 < x20)) = true then if (decide (0 ≤ x21)) = true then (x19[x21.toNat]?).bind fun y1 => if (decide (0 ≤ x21) && decide (x21 < (x5.length : Int))) = true then (x5[x21.toNat]?).bind fun y2 => if (decide (0 ≤ x21) && decide (x21 < (x5.length : Int))) = true then (x5[x21.toNat]?).bind fun y3 => F98c4 k (x5.set x21.toNat (IntKind.i64.wrap (y2 + y1))) x19 x20 (IntKind.i64.wrap (x21 + (1 : Int))) else none else none else none else F98c9 k x5 (IntKind.i64.wrap ((x5.length : Int) - (1 : Int))) (0 : Int) := by kernel_rfl
theorem F98c9_eq (k : Nat) (x5 : List Int) (x36 : Int) (x37 : Int) : F98c9 (k + 1) x5 x36 x37 =
    if (decide (x37 < x36)) = true then if (decide (0 ≤ (IntKind.i64.wrap (x37 + (1 : Int)))) && decide ((IntKind.i64.wrap (x37 + (1 : Int))) < (x5.length : Int))) = true then (x5[(IntKind.i64.wrap (x37 + (1 : Int))).toNat]?).bind fun y4 => if (decide (0 ≤ x37) && decide (x37 < (x5.length : Int))) = true then (x5[x37.toNat]?).bind fun y5 => if (decide (0 ≤ (IntKind.i64.wrap (x37 + (1 : Int)))) && decide ((IntKind.i64.wrap (x37 + (1 : Int))) < (x5.length : Int))) = true then (x5[(IntKind.i64.wrap (x37 + (1 : Int))).toNat]?).bind fun y6 => if (decide (0 ≤ x37) && decide (x37 < ((x5.set ((IntKind.i64.wrap (x37 + (1 : Int))).toNat) (IntKind.i64.wrap (y4 + (IntKind.i64.wrap (y5.tdiv (10000 : Int)))))).length : Int))) = true then ((x5.set ((IntKind.i64.wrap (x37 + (1 : Int))).toNat) (IntKind.i64.wrap (y4 + (IntKind.i64.wrap (y5.tdiv (10000 : Int))))))[x37.toNat]?).bind fun y7 => if (decide (0 ≤ x37) && decide (x37 < ((x5.set ((IntKind.i64.wrap (x37 + (1 : Int))).toNat) (IntKind.i64.wrap (y4 + (IntKind.i64.wrap (y5.tdiv (10000 : Int)))))).length : Int))) = true then ((x5.set ((IntKind.i64.wrap (x37 + (1 : Int))).toNat) (IntKind.i64.wrap (y4 + (IntKind.i64.wrap (y5.tdiv (10000 : Int))))))[x37.toNat]?).bind fun y8 => F98c9 k ((x5.set ((IntKind.i64.wrap (x37 + (1 : Int))).toNat) (IntKind.i64.wrap (y4 + (IntKind.i64.wrap (y5.tdiv (10000 : Int)))))).set x37.toNat (y7.tmod (10000 : Int))) x36 (IntKind.i64.wrap (x37 + (1 : Int))) else none else none else none else none else none else (F110 k x5).bind fun r9 => some ((r9.1.1, ()), ((), (), ())) := by kernel_rfl
theorem F99_eq (k : Nat) (a0 : List Int) (a1 : List Int) : F99 (k + 2) a0 a1 =
    if ((a0.length : Int) != (a1.length : Int)) = true then some (((if (if (IntKind.i64.wrap ((a0.length : Int) - (a1.length : Int))) < (1 : Int) then (IntKind.i64.wrap ((a0.length : Int) - (a1.length : Int))) else (1 : Int)) > (-1 : Int) then (if (IntKind.i64.wrap ((a0.length : Int) - (a1.length : Int))) < (1 : Int) then (IntKind.i64.wrap ((a0.length : Int) - (a1.length : Int))) else (1 : Int)) else (-1 : Int)), ()), ((), (), ())) else F99c4 k a0 a1 (IntKind.i64.wrap ((a0.length : Int) - (1 : Int))) := by kernel_rfl
theorem F99c4_eq (k : Nat) (x0 : List Int) (x1 : List Int) (x5 : Int) : F99c4 (k + 1) x0 x1 x5 =
    if (decide (x5 ≥ (0 : Int))) = true then if (decide (0 ≤ x5)) = true then (x0[x5.toNat]?).bind fun y1 => if (decide (0 ≤ x5)) = true then (x1[x5.toNat]?).bind fun y2 => if (y1 != y2) = true then if (decide (0 ≤ x5)) = true then (x0[x5.toNat]?).bind fun y3 => if (decide (0 ≤ x5)) = true then (x1[x5.toNat]?).bind fun y4 => some (((if (if (IntKind.i64.wrap (y3 - y4)) < (1 : Int) then (IntKind.i64.wrap (y3 - y4)) else (1 : Int)) > (-1 : Int) then (if (IntKind.i64.wrap (y3 - y4)) < (1 : Int) then (IntKind.i64.wrap (y3 - y4)) else (1 : Int)) else (-1 : Int)), ()), ((), (), ())) else none else none else F99c4 k x0 x1 (IntKind.i64.wrap (x5 - (1 : Int))) else none else none else some (((0 : Int), ()), ((), (), ())) := by kernel_rfl
theorem F100_eq (k : Nat) (a0 : List Int) (a1 : List Int) : F100 (k + 2) a0 a1 =
    (F111 k a0).bind fun r1 => F100c3 k r1.1.1 a1 (a1.length : Int) (0 : Int) := by kernel_rfl
theorem F100c3_eq (k : Nat) (x5 : List Int) (x11 : List Int) (x12 : Int) (x13 : Int) : F100c3 (k + 1) x5 x11 x12 x13 =
    if (decide (x13 < x12)) = true then if (decide (0 ≤ x13)) = true then (x11[x13.toNat]?).bind fun y2 => if (decide (0 ≤ x13) && decide (x13 < (x5.length : Int))) = true then (x5[x13.toNat]?).bind fun y3 => if (decide (0 ≤ x13) && decide (x13 < (x5.length : Int))) = true then (x5[x13.toNat]?).bind fun y4 => F100c3 k (x5.set x13.toNat (IntKind.i64.wrap (y3 - y2))) x11 x12 (IntKind.i64.wrap (x13 + (1 : Int))) else none else none else none else F100c8 k x5 (x5.length : Int) (0 : Int) := by kernel_rfl
theorem F100c8_eq (k : Nat) (x5 : List Int) (x27 : Int) (x28 : Int) : F100c8 (k + 1) x5 x27 x28 =
    if (decide (x28 < x27)) = true then if (decide (0 ≤ x28) && decide (x28 < (x5.length : Int))) = true then (x5[x28.toNat]?).bind fun y5 => if (decide (y5 < (0 : Int))) = true then if (decide (0 ≤ x28) && decide (x28 < (x5.length : Int))) = true then (x5[x28.toNat]?).bind fun y6 => if (decide (0 ≤ x28) && decide (x28 < (x5.length : Int))) = true then (x5[x28.toNat]?).bind fun y7 => if (decide (0 ≤ (IntKind.i64.wrap (x28 + (1 : Int)))) && decide ((IntKind.i64.wrap (x28 + (1 : Int))) < ((x5.set x28.toNat (IntKind.i64.wrap (y6 + (10000 : Int)))).length : Int))) = true then ((x5.set x28.toNat (IntKind.i64.wrap (y6 + (10000 : Int))))[(IntKind.i64.wrap (x28 + (1 : Int))).toNat]?).bind fun y8 => if (decide (0 ≤ (IntKind.i64.wrap (x28 + (1 : Int)))) && decide ((IntKind.i64.wrap (x28 + (1 : Int))) < ((x5.set x28.toNat (IntKind.i64.wrap (y6 + (10000 : Int)))).length : Int))) = true then ((x5.set x28.toNat (IntKind.i64.wrap (y6 + (10000 : Int))))[(IntKind.i64.wrap (x28 + (1 : Int))).toNat]?).bind fun y9 => F100c13 k ((x5.set x28.toNat (IntKind.i64.wrap (y6 + (10000 : Int)))).set ((IntKind.i64.wrap (x28 + (1 : Int))).toNat) (IntKind.i64.wrap (y8 - (1 : Int)))) x27 x28 else none else none else none else none else F100c13 k x5 x27 x28 else none else (F110 k x5).bind fun r10 => some ((r10.1.1, ()), ((), (), ())) := by kernel_rfl
theorem F100c13_eq (k : Nat) (x5 : List Int) (x27 : Int) (x28 : Int) : F100c13 (k + 1) x5 x27 x28 =
    F100c8 k x5 x27 (IntKind.i64.wrap (x28 + (1 : Int))) := by kernel_rfl
theorem F102_eq (k : Nat) (a0 : List Int) (a1 : Int) : F102 (k + 2) a0 a1 =
    if (decide (a1 < (a0.length : Int))) = true then if (decide (0 ≤ a1)) = true then (a0[a1.toNat]?).bind fun y1 => some ((y1, ()), ((), (), ())) else none else some (((0 : Int), ()), ((), (), ())) := by kernel_rfl
theorem F103_eq (k : Nat) (a0 : List Int) : F103 (k + 2) a0 =
    F103c2 k a0 (a0.length : Int) := by kernel_rfl
theorem F103c2_eq (k : Nat) (x0 : List Int) (x3 : Int) : F103c2 (k + 1) x0 x3 =
    if (decide (x3 > (0 : Int))) = true then if (decide (0 ≤ (IntKind.i64.wrap (x3 - (1 : Int))))) = true then (x0[(IntKind.i64.wrap (x3 - (1 : Int))).toNat]?).bind fun y1 => if (y1 == (0 : Int)) = true then F103c2 k x0 (IntKind.i64.wrap (x3 - (1 : Int))) else if (decide (0 ≤ x3) && decide (x3 ≤ (x0.length : Int))) = true then if (decide (([] : List Int).length + (slices x0 0 x3.toNat).length ≤ 17592186044416)) = true then some (((([] : List Int) ++ (slices x0 0 x3.toNat)), ()), ((), ())) else none else none else none else if (decide (0 ≤ x3) && decide (x3 ≤ (x0.length : Int))) = true then if (decide (([] : List Int).length + (slices x0 0 x3.toNat).length ≤ 17592186044416)) = true then some (((([] : List Int) ++ (slices x0 0 x3.toNat)), ()), ((), ())) else none else none := by kernel_rfl
theorem F110_eq (k : Nat) (a0 : List Int) : F110 (k + 2) a0 =
    F110c1 k a0 := by kernel_rfl
theorem F110c1_eq (k : Nat) (x0 : List Int) : F110c1 (k + 1) x0 =
    if (decide ((x0.length : Int) > (0 : Int))) = true then if (decide (0 ≤ (IntKind.i64.wrap ((x0.length : Int) - (1 : Int))))) = true then (x0[(IntKind.i64.wrap ((x0.length : Int) - (1 : Int))).toNat]?).bind fun y1 => if (y1 == (0 : Int)) = true then if (decide (0 ≤ (IntKind.i64.wrap ((x0.length : Int) - (1 : Int)))) && decide ((IntKind.i64.wrap ((x0.length : Int) - (1 : Int))) ≤ (x0.length : Int))) = true then F110c1 k (slices x0 0 ((IntKind.i64.wrap ((x0.length : Int) - (1 : Int))).toNat)) else none else some ((x0, ()), ((), ())) else none else some ((x0, ()), ((), ())) := by kernel_rfl
theorem F111_eq (k : Nat) (a0 : List Int) : F111 (k + 2) a0 =
    bothK (emptyL a0) (some ((([] : List Int), ()), ((), ()))) (if (decide (([] : List Int).length + a0.length ≤ 17592186044416)) = true then some (((([] : List Int) ++ a0), ()), ((), ())) else none) := by kernel_rfl
theorem F19020_eq (k : Nat) (a0 : List (Int × Bool × Bool × (List Int) × Int × Int × Int × Int × ByteArray × Unit)) : F19020 (k + 2) a0 =
    (F19036 k a0).bind fun r1 => some ((decide (r1.1.1 ≥ (0 : Int)), ()), ((), (), ())) := by kernel_rfl
theorem F19036_eq (k : Nat) (a0 : List (Int × Bool × Bool × (List Int) × Int × Int × Int × Int × ByteArray × Unit)) : F19036 (k + 2) a0 =
    F19036c2 k a0 (a0.length : Int) (0 : Int) := by kernel_rfl
theorem F19036c2_eq (k : Nat) (x0 : List (Int × Bool × Bool × (List Int) × Int × Int × Int × Int × ByteArray × Unit)) (x7 : Int) (x8 : Int) : F19036c2 (k + 1) x0 x7 x8 =
    if (decide (x8 < x7)) = true then if (decide (0 ≤ x8)) = true then (x0[x8.toNat]?).bind fun y1 => (F18 k y1.1 y1.2.1 y1.2.2.1 y1.2.2.2.1 y1.2.2.2.2.1 y1.2.2.2.2.2.1 y1.2.2.2.2.2.2.1 y1.2.2.2.2.2.2.2.1 y1.2.2.2.2.2.2.2.2.1).bind fun r2 => if r2.1.1 = true then some ((x8, ()), ((), (), ())) else F19036c2 k x0 x7 (IntKind.i64.wrap (x8 + (1 : Int))) else none else some (((-1 : Int), ()), ((), (), ())) := by kernel_rfl
theorem F23021_eq (k : Nat) (a0 : List Int) (a1_0 : List (Int × Bool × Bool × (List Int) × Int × Int × Int × Int × ByteArray × Unit)) : F23021 (k + 2) a0 a1_0 =
    (F23037 k a0 a1_0).bind fun r1 => some ((decide (r1.1.1 ≥ (0 : Int)), ()), ((), ((), ()), ())) := by kernel_rfl
theorem F23037_eq (k : Nat) (a0 : List Int) (a1_0 : List (Int × Bool × Bool × (List Int) × Int × Int × Int × Int × ByteArray × Unit)) : F23037 (k + 2) a0 a1_0 =
    F23037c2 k a0 a1_0 (a0.length : Int) (0 : Int) := by kernel_rfl
theorem F23037c2_eq (k : Nat) (x0 : List Int) (x1_0 : List (Int × Bool × Bool × (List Int) × Int × Int × Int × Int × ByteArray × Unit)) (x7 : Int) (x8 : Int) : F23037c2 (k + 1) x0 x1_0 x7 x8 =
    if (decide (x8 < x7)) = true then if (decide (0 ≤ x8)) = true then (x0[x8.toNat]?).bind fun y1 => (F22 k y1 x1_0).bind fun r2 => if r2.1.1 = true then some ((x8, ()), ((), ((), ()), ())) else F23037c2 k x0 x1_0 x7 (IntKind.i64.wrap (x8 + (1 : Int))) else none else some (((-1 : Int), ()), ((), ((), ()), ())) := by kernel_rfl
theorem F63021_eq (k : Nat) (a0 : List Int) : F63021 (k + 2) a0 =
    (F63037 k a0).bind fun r1 => some ((decide (r1.1.1 ≥ (0 : Int)), ()), ((), (), ())) := by kernel_rfl
theorem F63037_eq (k : Nat) (a0 : List Int) : F63037 (k + 2) a0 =
    F63037c2 k a0 (a0.length : Int) (0 : Int) := by kernel_rfl
theorem F63037c2_eq (k : Nat) (x0 : List Int) (x7 : Int) (x8 : Int) : F63037c2 (k + 1) x0 x7 x8 =
    if (decide (x8 < x7)) = true then if (decide (0 ≤ x8)) = true then (x0[x8.toNat]?).bind fun y1 => (F62 k y1).bind fun r2 => if r2.1.1 = true then some ((x8, ()), ((), (), ())) else F63037c2 k x0 x7 (IntKind.i64.wrap (x8 + (1 : Int))) else none else some (((-1 : Int), ()), ((), (), ())) := by kernel_rfl
end Go.Proofs.YthbibdpbfgoghaaGreatDoor.R
end

section
/-! Rf: what is to be shown of a law, with no machine in sight. -/
set_option autoImplicit false
namespace Go.Proofs.YthbibdpbfgoghaaGreatDoor.R
open Go.Rf
def PureFnExactRowOrder : Prop := ∀ (a0 : List (Int × Bool × Bool × (List Int) × Int × Int × Int × Int × ByteArray × Unit)) (a1 : List (Int × Bool × Bool × (List Int) × Int × Int × Int × Int × ByteArray × Unit)) (a2 : List Int) (a3 : List Bool), wfT (.sl (.pair (.int .i64) (.pair .bool (.pair .bool (.pair (.sl (.int .i64)) (.pair (.int .i64) (.pair (.int .i64) (.pair (.int .i64) (.pair (.int .i64) (.pair .str .unit)))))))))) a0 → wfT (.sl (.pair (.int .i64) (.pair .bool (.pair .bool (.pair (.sl (.int .i64)) (.pair (.int .i64) (.pair (.int .i64) (.pair (.int .i64) (.pair (.int .i64) (.pair .str .unit)))))))))) a1 → wfT (.sl (.int .i64)) a2 → wfT (.sl .bool) a3 → ∃ k p, F3 k a0 a1 a2 a3 = some ((true, ()), p)
end Go.Proofs.YthbibdpbfgoghaaGreatDoor.R
end

section
namespace Go.Proofs.YthbibdpbfgoghaaGreatDoor.Q
open Go.Shelf
open Go.RowKit Go.Proofs.YthbibdpbfgoghaaGreatDoor.Q Go.Proofs.YthbibdpbfgoghaaGreatDoorW.PrintWords Go.Proofs.YthbibdpbfgoghaaGreatDoorW.PrintLast Go.Proofs.YthbibdpbfgoghaaGreatDoorW.PrintMore
set_option linter.unusedVariables false
set_option linter.unusedSimpArgs false
/-- A block holds these cells. -/
def CellsAt (W : World) (B : Nat) (t : TypeId) (cs : Array Value) : Prop := W.heap[B]? = some (.cells cs t (0, 0))
theorem CellsAt.lt {W : World} {B : Nat} {t : TypeId} {cs : Array Value} (h : CellsAt W B t cs) : B < W.heap.size := (Array.getElem?_eq_some_iff.1 h).1
theorem CellsAt.new (W : World) (t : TypeId) (cs : Array Value) : CellsAt (W.alloc (.cells cs t)) W.heap.size t cs := World.alloc_heap_new W _
theorem CellsAt.kept {W W' : World} {row : Option Nat} {B : Nat} {t : TypeId} {cs : Array Value} (h : CellsAt W B t cs) (hg : W.grownBy W' row) (hne : some B ≠ row) : CellsAt W' B t cs := (hg.block B h.lt hne).trans h
theorem CellsAt.below {W W' : World} {B n : Nat} {t : TypeId} {cs : Array Value} (h : CellsAt W B t cs) (hb : Below n W W') (hn : B < n) : CellsAt W' B t cs := (hb.block B hn).trans h
theorem CellsAt.alloc {W : World} {B : Nat} {t : TypeId} {cs : Array Value} (h : CellsAt W B t cs) (o : Obj) : CellsAt (W.alloc o) B t cs := (Below.heap_alloc W o B h.lt).trans h
theorem CellsAt.cell {W : World} {B : Nat} {t : TypeId} {cs : Array Value} (h : CellsAt W B t cs) (j : Nat) : W.cell? ⟨B, j, none⟩ = cs[j]? := by
  simp [World.cell?, show W.heap[B]? = _ from h]
theorem cellsAt_own {β : Type} (B : Nat) (t : TypeId) (f : β → Array Value) : Own (fun s W => CellsAt W B t (f s)) := fun s X Y row hs hg hrow =>
  hs.kept hg (fun e' => by obtain ⟨o, ho, hc⟩ := hrow B e'.symm; rw [show X.heap[B]? = _ from hs] at ho; cases ho; cases hc)
/-- What has come when k rounds are over. -/
def upto {α : Type} (f : Nat → α) (k : Nat) : List α := (List.range k).map f
theorem upto_succ {α : Type} (f : Nat → α) (k : Nat) : upto f (k + 1) = upto f k ++ [f k] := by simp [upto, List.range_succ]
theorem upto_length {α : Type} (f : Nat → α) (k : Nat) : (upto f k).length = k := by simp [upto]
/-- What a round that goes on keeps: what lay below, and the box of the slice. -/
def KpB (n₀ Bs : Nat) (W W' : World) : Prop := Below n₀ W W' ∧ W'.heap[Bs]? = W.heap[Bs]?
theorem KpB.refl (n₀ Bs : Nat) (W : World) : KpB n₀ Bs W W := ⟨Below.refl _ _, rfl⟩
theorem KpB.trans {n₀ Bs : Nat} {A B C : World} (h : KpB n₀ Bs A B) (k : KpB n₀ Bs B C) : KpB n₀ Bs A C := ⟨h.1.trans k.1, k.2.trans h.2⟩
theorem kpB_b {n₀ Bs : Nat} {w : World} (h0 : n₀ ≤ w.heap.size) (hB : Bs < w.heap.size) : ∀ (W : World) (l : Nat) (o o' : Obj), w.heap.size ≤ l → W.heap[l]? = some o → o.isCells = false → o.isWalk = false → KpB n₀ Bs W (W.putObj l o') :=
  fun W l o o' hl h1 h2 h3 => ⟨belowK_b h0 W l o o' hl h1 h2 h3, World.putObj_heap_other (by omega)⟩
end Go.Proofs.YthbibdpbfgoghaaGreatDoor.Q
end

section
namespace Go.Proofs.YthbibdpbfgoghaaGreatDoor.Q
open Go.RowKit Go.Proofs.YthbibdpbfgoghaaGreatDoor.Q Go.Proofs.YthbibdpbfgoghaaGreatDoorW.PrintWords Go.Proofs.YthbibdpbfgoghaaGreatDoorW.PrintLast Go.Proofs.YthbibdpbfgoghaaGreatDoorW.PrintMore
set_option linter.unusedVariables false
set_option linter.unusedSimpArgs false
set_option maxHeartbeats 2000000 in
set_option maxRecDepth 100000 in
theorem bld_copyCheck (B b : Nat) (bs : List Value) (w : World) (h : Lib.IsBuilderF 93 5 B b bs w) :
    Calls Tryz.prog 94 #[.pointer (some ⟨b, 0, none⟩)] w fun e w' => e = .returned (.tuple #[]) ∧ (Lib.BuilderAtF 93 5 B b (.pointer (some ⟨b, 0, none⟩)) bs w' ∧ Below B w w' ∧ Lib.OthersKept 5 (some b) w w') := by
  have hsz : (Tryz.prog.info? 93).map (·.size) = some 2 := by kernel_rfl
  obtain ⟨j, hj, hjs⟩ := Option.map_eq_some_iff.1 hsz
  rcases h with h | h
  · have h' := h
    obtain ⟨hB, v, hbk, hown, hne⟩ := h'
    have c0 : w.cell? ⟨b, 0, none⟩ = some (.pointer none) := by rw [Lib.cell_of_heap hbk]; rfl
    have c1 : w.cell? ⟨b, 1, none⟩ = some v := by rw [Lib.cell_of_heap hbk]; rfl
    have f0 : w.frozen? ⟨b, 0, none⟩ = false := Lib.frozen_of_heap hbk 0
    go_enter Tryz.func94, Tryz.ntmps94
    go_wp2
    rw [Lib.run_to_unsafe w ⟨b, 0, none⟩ Tryz.underlying90 Tryz.underlying129 hj (by rw [hjs]; decide) h.shape (Nat.zero_lt_succ 1)]
    simp only [Result.andThen]
    rw [Oper.upon_value]
    go_wp2
    rw [run_callFunc_extern Tryz.func109 (by kernel_rfl) (by kernel_rfl) (by kernel_rfl) (e := Extern.AbiNoEscape.same) (by kernel_rfl)]
    rw [Lib.run_noEscape]
    simp only [Result.andThen]
    rw [Oper.upon_value]
    go_wp2
    rw [Lib.run_from_unsafe w ⟨b, 0, none⟩ Tryz.underlying129 Tryz.underlying90 hj h.shape (by kernel_rfl)]
    simp only [Result.andThen]
    rw [Oper.upon_value]
    go_wp2
    go_end0
    exact ⟨rfl, h.used _, (Below.refl B w).setCell (p := ⟨b, 0, none⟩) h.1 _, (Lib.OthersKept.refl _ _ w).setCell ⟨b, 0, none⟩ rfl _⟩
  · obtain ⟨hB, v, hbk, hown, hne⟩ := id h
    have c0 : w.cell? ⟨b, 0, none⟩ = some (.pointer (some ⟨b, 0, none⟩)) := by rw [Lib.cell_of_heap hbk]; rfl
    go_enter Tryz.func94, Tryz.ntmps94
    go_wp2
    rw [Lib.run_neq_ptr_same w _ Tryz.underlying90 hj]
    go_wp2
    go_end0
    exact ⟨rfl, h, Below.refl B _, Lib.OthersKept.refl _ _ _⟩
theorem infoByte : (Tryz.prog.info? 5).map (fun i => (i.zero, i.size, i.bytes)) = some (some (.int .u8 0), 1, 1) := by kernel_rfl
set_option maxHeartbeats 2000000 in
set_option maxRecDepth 100000 in
theorem bld_WriteString (B b : Nat) (bs : List Value) (s : ByteArray) (w : World) (h : Lib.IsBuilderF 93 5 B b bs w) (hlen : bs.length + s.size ≤ 140737488355328) (hBw : B ≤ w.heap.size) :
    Calls Tryz.prog 76 #[.pointer (some ⟨b, 0, none⟩), .string s] w fun e w' => e = .returned (.tuple #[.int .i64 s.size, .nilIface]) ∧ (Lib.BuilderAtF 93 5 B b (.pointer (some ⟨b, 0, none⟩)) (bs ++ Lib.strCells s) w' ∧ Below B w w' ∧ Lib.OthersKept 5 (some b) w w') := by
  obtain ⟨i0, hi, hz0, hz1, hz2⟩ := info_parts infoByte
  go_enter Tryz.func76, Tryz.ntmps76
  go_wp2_with (go_at_call 94; refine (bld_copyCheck B b bs _ h).mono ?_)
  rintro e w1 ⟨rfl, h1, hb1, hk1⟩
  obtain ⟨hB, v, hbk, hown, hne⟩ := h1
  have c0 : w1.cell? ⟨b, 0, none⟩ = some (.pointer (some ⟨b, 0, none⟩)) := by rw [Lib.cell_of_heap hbk]; rfl
  have c1 : w1.cell? ⟨b, 1, none⟩ = some v := by rw [Lib.cell_of_heap hbk]; rfl
  go_wp2_with (at_builtin; refine Lib.wpList_append_own_stringF _ rfl _ _ 91 9 rfl B 5 i0 Tryz.underlying91 Tryz.underlying9 hi hz0 hz1 hz2 _ _ _ rfl hown s rfl ?c3 ?c4 ?c5 ?_)
  case c3 => unfold maxLen; omega
  case c4 => omega
  case c5 => have := hb1.size; omega
  intro v' w2 hown' hgrow _
  have hlt : b < w1.heap.size := (Array.getElem?_eq_some_iff.1 hbk).1
  have hb2 : w2.heap[b]? = some (.cells #[.pointer (some ⟨b, 0, none⟩), v] 93 (0, 0)) := by
    rw [hgrow.block b hlt (fun e => hne e.symm)]
    exact hbk
  have d0 : w2.cell? ⟨b, 0, none⟩ = some (.pointer (some ⟨b, 0, none⟩)) := by rw [Lib.cell_of_heap hb2]; rfl
  have d1 : w2.cell? ⟨b, 1, none⟩ = some v := by rw [Lib.cell_of_heap hb2]; rfl
  have f1 : w2.frozen? ⟨b, 1, none⟩ = false := Lib.frozen_of_heap hb2 1
  obtain ⟨ao, n', cap, rfl⟩ : ∃ ao n' cap, v' = .slice ao n' cap := by
    rcases hown'.2 with ⟨hv, _⟩ | ⟨g, cap, cur, fz, hv, _⟩
    · exact ⟨_, _, _, hv⟩
    · exact ⟨_, _, _, hv⟩
  go_wp2
  go_ret2
  refine ⟨rfl, ?_, ?_, (hk1.grown hgrow (Lib.ownsRowF_kind hown)).setCell ⟨b, 1, none⟩ rfl _⟩
  · exact Lib.BuilderAtF.put (T := 93) (e := 5) hB hb2 (bs' := bs ++ Lib.strCells s) (by simpa [Lib.strCells_length] using hown') (by decide)
  · exact (hb1.grown hgrow (by have := hb1.size; omega) (fun k hk => (hown.lt k hk).1)).setCell (p := ⟨b, 1, none⟩) hB _
end Go.Proofs.YthbibdpbfgoghaaGreatDoor.Q
end

section
namespace Go.Proofs.YthbibdpbfgoghaaGreatDoor.Q
open Go.Shelf
open Go.RowKit Go.Proofs.YthbibdpbfgoghaaGreatDoor.Q Go.Proofs.YthbibdpbfgoghaaGreatDoorW.PrintWords Go.Proofs.YthbibdpbfgoghaaGreatDoorW.PrintLast Go.Proofs.YthbibdpbfgoghaaGreatDoorW.PrintMore
set_option linter.unusedVariables false
set_option linter.unusedSimpArgs false
attribute [local go_sem] Oper.semAt_some
def encI (x : Int × Int) : Array Value := #[.int .i64 x.1, .int .i64 x.2]
def bwI (zs : List Int) (j : Nat) : Int × Int := ((zs.length : Int) - 1 - j, rd zs ((zs.length : Int) - 1 - j))
set_option maxRecDepth 100000 in
set_option maxHeartbeats 2000000 in
theorem backI1_in {α : Type} (pr : α → Int × Int) (f : Nat → α) (F : Fence) (n : Nat) (h7 : F.fn 88) (hro : F.round = none) (hn : 1 ≤ n) (l Bs : Nat) (w0 : World) (A : Option Addr) (cap : Nat) (zs : List Int) (hcap : zs.length ≤ cap) (hlen : zs.length ≤ 1152921504606846976)
    (hC : Kd.C (Kd.int .i64) w0 A zs.length zs) (hf : ∀ k, k < zs.length → pr (f k) = bwI zs k) (J Jx : List α → World → Prop)
    (hY : ∀ pre x W, J pre W → pre.length < zs.length → YieldAt F (n - 1) Tryz.prog l (encI (pr x)) W fun e W' =>
      (e = .returned (.bool true) ∧ J (pre ++ [x]) W' ∧ KpB w0.heap.size Bs W W') ∨ (e = .returned (.bool false) ∧ Jx (pre ++ [x]) W'))
    (W : World) (hB : Below w0.heap.size w0 W) (hBs : CellsAt W Bs 76 #[.slice A zs.length cap]) (h0 : J [] W) :
    CallsIn F n Tryz.prog 88 #[.func (.yield l) #[] #[], .pointer (some ⟨Bs, 0, none⟩)] W fun e W' => (∃ v, e = .returned v) ∧
      ((∃ ys, ys = upto f zs.length ∧ J ys W') ∨ (∃ pre, (∃ k, k ≤ zs.length ∧ pre = upto f k) ∧ Jx pre W')) := by
  refine callsIn_of_wp Tryz.func88 rfl h7 ?_ hro
  simp only [Tryz.ntmps88, List.size_toArray, List.length_cons, List.length_nil, Nat.reduceAdd, Nat.reduceSub, Array.replicate_succ, Array.replicate_zero, List.push_toArray, List.append_toArray, List.nil_append, List.cons_append]
  have e1 : wrap64 ((zs.length : Int) - 1) = (zs.length : Int) - 1 := by unfold wrap64; omega
  have hc0 : W.cell? ⟨Bs, 0, none⟩ = some (.slice A zs.length cap) := hBs.cell 0
  gi_wp2
  gi_loopw [3] (fun i wr => ∃ k : Nat, k ≤ zs.length ∧ i = .int .i64 ((zs.length : Int) - 1 - k) ∧ J (upto f k) wr ∧ KpB w0.heap.size Bs W wr)
    (fun i _ => (intOf i + 1).toNat)
  case atStart => exact ⟨0, Nat.zero_le _, by simp [*], h0, KpB.refl _ _ _⟩
  case round =>
    obtain ⟨k, hk, rfl, hJs, hnx⟩ := hrel
    have hbx : CellsAt wr Bs 76 #[.slice A zs.length cap] := hnx.2.trans hBs
    have hc1 : wr.cell? ⟨Bs, 0, none⟩ = some (.slice A zs.length cap) := hbx.cell 0
    have hCr := Kd.C_below hC (hB.trans hnx.1)
    by_cases hlt : k < zs.length
    · obtain ⟨fn, tmps, assign, body, hy, hR⟩ := hY _ (f k) wr hJs (by rw [upto_length]; exact hlt)
      rw [hf k hlt] at hy
      simp only [encI, bwI] at hy
      obtain ⟨i, hi⟩ : ∃ i : Int, (zs.length : Int) - 1 - k = i := ⟨_, rfl⟩
      rw [hi] at hy ⊢
      have p0 : 0 ≤ i := by omega
      have q0 : i < (zs.length : Int) := by omega
      obtain ⟨ad, eA, hx0⟩ := Kd.at_int hCr i p0 q0
      subst eA
      have p0' := eq_true p0
      have q0' := eq_true q0
      have d0 : decide (i < 0) = false := decide_eq_false (by omega)
      have d1 : decide (0 ≤ i) = true := decide_eq_true p0
      gi_wp2
      refine hR.mono ?_
      rintro e W3 (⟨rfl, hJ3, hk3⟩ | ⟨rfl, hJx3⟩)
      · have e2 : wrap64 (i - 1) = i - 1 := by unfold wrap64; omega
        gi_wp2
        go_roundw
        case rel => exact ⟨k + 1, by omega, by simp [*]; omega, by rw [upto_succ]; exact hJ3, hnx.trans hk3⟩
        case measure => simp [intOf, e2]; omega
      · gi_wp2
        refine bodyPost_ret (results_none rfl _ _ _) rfl ?_
        exact ⟨⟨_, rfl⟩, .inr ⟨_, ⟨k + 1, by omega, (upto_succ _ _).symm⟩, hJx3⟩⟩
    · obtain rfl : k = zs.length := by omega
      have d0 : decide (0 ≤ (zs.length : Int) - 1 - zs.length) = false := decide_eq_false (by omega)
      gi_wp2
      go_end0
      exact ⟨⟨_, rfl⟩, .inl ⟨_, rfl, hJs⟩⟩
set_option maxHeartbeats 1000000 in
theorem backI_in (F : Fence) (n : Nat) (h5 : F.fn 73) (hro : F.round = none) (a : Option Addr) (len cap : Nat) (w : World) :
    CallsIn F n Tryz.prog 73 #[.slice a len cap] w fun e w' => e = .returned (.func (.func 88) #[] #[.pointer (some ⟨w.heap.size, 0, none⟩)]) ∧ w' = w.alloc (.cells #[.slice a len cap] 76) := by
  refine callsIn_of_wp Tryz.func73 rfl h5 ?_ hro
  simp only [Tryz.ntmps73, List.size_toArray, List.length_cons, List.length_nil, Nat.reduceAdd, Nat.reduceSub, Array.replicate_succ, Array.replicate_zero, List.push_toArray, List.append_toArray, List.nil_append, List.cons_append]
  gi_wp2
  go_ret
  exact ⟨rfl, rfl⟩
theorem backI_stops {α : Type} (pr : α → Int × Int) (f : Nat → α) (F : Fence) (n : Nat) (h7 : F.fn 88) (hro : F.round = none) (hn : 1 ≤ n) (Bs : Nat) (w0 : World) (A : Option Addr) (cap : Nat) (zs : List Int) (hcap : zs.length ≤ cap) (hlen : zs.length ≤ 1152921504606846976)
    (hC : Kd.C (Kd.int .i64) w0 A zs.length zs) (hf : ∀ k, k < zs.length → pr (f k) = bwI zs k) (w : World) (hB : Below w0.heap.size w0 w) (hBs : CellsAt w Bs 76 #[.slice A zs.length cap]) :
    SeqStopsK F n Tryz.prog 88 #[.pointer (some ⟨Bs, 0, none⟩)] (fun x => encI (pr x)) (KpB w0.heap.size Bs) (fun ys => ys = upto f zs.length)
      (fun pre => ∃ k, k ≤ zs.length ∧ pre = upto f k) zs.length w := fun l J Jx W hW _ _ hY h0 =>
  backI1_in pr f F n h7 hro hn l Bs w0 A cap zs hcap hlen hC hf J Jx hY W (hB.trans (hW.mono hB.size)) (hBs.below hW hBs.lt) h0
theorem grownBy_of_below {W W' : World} (h : Below W.heap.size W W') : W.grownBy W' none := ⟨h.os, h.tape, h.output, h.size, fun k hk _ => h.block k hk⟩
theorem builder_below {T e : TypeId} {B b : Nat} {bs : List Value} {W W' : World} (h : Lib.IsBuilderF T e B b bs W) (hb : Below W.heap.size W W') : Lib.IsBuilderF T e B b bs W' := by
  have key : ∀ p, Lib.BuilderAtF T e B b p bs W → Lib.BuilderAtF T e B b p bs W' := fun p h => by
    obtain ⟨hB, v, hbk, hown, hne⟩ := id h
    refine ⟨hB, v, (hb.block b h.lt).trans hbk, hown.kept (grownBy_of_below hb) ?_, hne⟩
    by_cases hv : v.ownBlock = none
    · exact .inl hv
    · exact .inr hv
  exact h.imp (key _) (key _)
theorem keepsFrom_of_others {e : TypeId} {b n : Nat} {W W' : World} (hs : W.heap.size ≤ W'.heap.size) (h : Lib.OthersKept e (some b) W W') (hc : ∃ cs t fz, W.heap[b]? = some (.cells cs t fz)) : KeepsFrom n W W' :=
  ⟨hs, fun k o _ hk ho => h k o hk (fun e' => by cases e'; obtain ⟨cs, t, fz, hc⟩ := hc; rw [hk] at hc; cases hc; cases ho) (fun c fz e' => by subst e'; cases ho)⟩
theorem keepsFrom_of_below {n : Nat} {W W' : World} (h : Below W.heap.size W W') : KeepsFrom n W W' :=
  ⟨h.size, fun k o _ hk _ => (h.block k (Array.getElem?_eq_some_iff.1 hk).1).trans hk⟩
/-- A builder stays one while what is no cells turns. -/
theorem builder_own {β : Type} (T e : TypeId) (B b : Nat) (f : β → List Value) : Own (fun s W => Lib.IsBuilderF T e B b (f s) W) := fun s X Y row hs hg hr => by
  have key : ∀ p, Lib.BuilderAtF T e B b p (f s) X → Lib.BuilderAtF T e B b p (f s) Y := fun p h => by
    obtain ⟨hB, v, hbk, hown, hne⟩ := id h
    refine ⟨hB, v, (hg.block b h.lt (fun e' => ?_)).trans hbk, hown.kept hg ?_, hne⟩
    · obtain ⟨o, ho, hc⟩ := hr b e'.symm
      rw [hbk] at ho; cases ho; cases hc
    · by_cases hv : v.ownBlock = none
      · exact .inl hv
      · refine .inr fun e' => ?_
        obtain ⟨g, hgk⟩ := Option.ne_none_iff_exists'.1 hv
        obtain ⟨o, ho, hc⟩ := hr g (by rw [← e', hgk])
        obtain ⟨c, fz, hk⟩ := Lib.ownsRowF_kind hown g hgk
        rw [hk] at ho; cases ho; cases hc
  exact hs.imp (key _) (key _)
/-- A limb, and its place. -/
abbrev Limb := { x : Int × Int // 0 ≤ x.2 ∧ x.2 ≤ 9999 }
theorem rd_limb {zs : List Int} (hz : ∀ y ∈ zs, 0 ≤ y ∧ y ≤ 9999) (i : Int) : 0 ≤ rd zs i ∧ rd zs i ≤ 9999 := by
  unfold rd
  rw [List.getD_eq_getElem?_getD]
  cases h : zs[i.toNat]? with
  | none => simp
  | some y => exact hz y (List.mem_of_getElem? h)
def limbAt (zs : List Int) (hz : ∀ y ∈ zs, 0 ≤ y ∧ y ≤ 9999) (k : Nat) : Limb := ⟨bwI zs k, rd_limb hz _⟩
/-- A limb's figures: the top one as it is, any other four figures wide. -/
def piece (n : Int) (x : Int × Int) : List UInt8 := if x.1 < n - 1 then Lib.repeatL [48] (4 - (Lib.itoa x.2).length) ++ Lib.itoa x.2 else Lib.itoa x.2
theorem decDigits_len : ∀ (k u : Nat), u < 10 ^ (k + 1) → (Lib.decDigits u).length ≤ k + 1 := by
  intro k
  induction k with
  | zero => intro u h; rw [Lib.decDigits, dif_pos (by simpa using h)]; simp
  | succ k ih =>
    intro u h
    rw [Lib.decDigits]
    by_cases hu : u < 10
    · rw [dif_pos hu]; simp
    · rw [dif_neg hu, List.length_append]
      have := ih (u / 10) (by rw [Nat.pow_succ] at h; omega)
      simp only [List.length_cons, List.length_nil]
      omega
theorem itoa_len (x : Int) (h0 : 0 ≤ x) (h1 : x ≤ 9999) : (Lib.itoa x).length ≤ 4 := by
  unfold Lib.itoa
  rw [if_neg (by omega)]
  exact decDigits_len 3 x.toNat (by omega)
/-- Limbs as a text. -/
def textF (zs : List Int) : List UInt8 := if zs = [] then [48] else (upto (bwI zs) zs.length).flatMap (piece zs.length)
end Go.Proofs.YthbibdpbfgoghaaGreatDoor.Q
end

section
namespace Go.Proofs
open Go.Shelf
def Tryz.lays169_ren : Go.Shelf.Ren := ⟨fun | 169 => 77 | n => n, fun | 70 => 90 | 9 => 9 | 0 => 0 | 72 => 93 | 37 => 91 | 127 => 118 | 3 => 3 | 5 => 5 | n => n, fun | n => n⟩
theorem Tryz.lays169 : Go.Proofs.Lays.n169 Tryz.prog Tryz.lays169_ren := {
  mixed := by kernel_rfl
  f169 := Tryz.func77.trans (congrArg some (by kernel_rfl))
  t0 := Tryz.underlying0
  a0 := Tryz.isAgg0
  z0 := Tryz.sizeOf0
  v0 := Tryz.zeroValue0
  t3 := Tryz.underlying3
  a3 := Tryz.isAgg3
  z3 := Tryz.sizeOf3
  v3 := Tryz.zeroValue3
  t9 := Tryz.underlying9
  a9 := Tryz.isAgg9
  z9 := Tryz.sizeOf9
  v9 := Tryz.zeroValue9
  t37 := Tryz.underlying91
  a37 := Tryz.isAgg91
  z37 := Tryz.sizeOf91
  v37 := Tryz.zeroValue91
  t70 := Tryz.underlying90
  a70 := Tryz.isAgg90
  z70 := Tryz.sizeOf90
  v70 := Tryz.zeroValue90
  t72 := Tryz.underlying93
  a72 := Tryz.isAgg93
  z72 := Tryz.sizeOf93
  v72 := Tryz.zeroValue93
  t127 := Tryz.underlying118
  a127 := Tryz.isAgg118
  z127 := Tryz.sizeOf118
  v127 := Tryz.zeroValue118 }
theorem Tryz.Builder_Extra_169 : Builder.Extra Tryz.prog Tryz.lays169_ren := {
  sizeBuilder := by kernel_rfl
  liesBuilder := by kernel_rfl
  t5 := Tryz.underlying5
  a5 := Tryz.isAgg5
  z5 := Tryz.sizeOf5
  v5 := Tryz.zeroValue5
  infoByte := by kernel_rfl
  cellsByte := by kernel_rfl
  sizeByte := by kernel_rfl
  neB5 := by decide }
def Tryz.lays106_ren : Go.Shelf.Ren := ⟨fun | 106 => 68 | 213 => 82 | 265 => 101 | n => n, fun | 9 => 9 | 3 => 3 | n => n, fun | n => n⟩
theorem Tryz.lays106 : Go.Proofs.Lays.n106 Tryz.prog Tryz.lays106_ren := {
  mixed := by kernel_rfl
  f106 := Tryz.func68.trans (congrArg some (by kernel_rfl))
  f213 := Tryz.func82.trans (congrArg some (by kernel_rfl))
  f265 := Tryz.func101.trans (congrArg some (by kernel_rfl))
  t3 := Tryz.underlying3
  a3 := Tryz.isAgg3
  z3 := Tryz.sizeOf3
  v3 := Tryz.zeroValue3
  t9 := Tryz.underlying9
  a9 := Tryz.isAgg9
  z9 := Tryz.sizeOf9
  v9 := Tryz.zeroValue9 }
open Go.RowKit in
/-- strings.Compare: "Compare returns an integer comparing two strings lexicographically. The result will be 0 if a == b, -1 if a < b, and +1 if a > b.": IT RETURNS 'Lib.compareBytes a b'; the world is as it was. (LAID: no walk: one application.) -/
theorem Tryz.strings_Compare (a b : ByteArray) (w : World) :
    Calls Tryz.prog 68 #[.string a, .string b] w fun e w' => e = .returned (.int .i64 (Lib.compareBytes a.data.toList b.data.toList)) ∧ w' = w := Any.strings_Compare Tryz.lays106 a b w
open Go.RowKit in
/-- (*strings.Builder).String: "String returns the accumulated string.": WHATEVER THE BUILDER HOLDS; THE FORM '_k': OVER 'Lib.IsBuilderF' (a builder that 'String()' may have read), AND WITH THE FRAME THAT REACHES ABOVE THE BUILDER: 'Lib.OthersKept': every block that is not b and is no row of uint8's stands as it stood: the iterator of a range among them. (LAID: no walk: one application.) -/
theorem Tryz.Builder_String_any_k (B b : Nat) (l : List UInt8) (w : World) (h : Lib.IsBuilderF 93 5 B b (Lib.byteCells l) w) (hBw : B ≤ w.heap.size) :
    Calls Tryz.prog 77 #[.pointer (some ⟨b, 0, none⟩)] w fun e w' => e = .returned (.string ⟨l.toArray⟩) ∧ (Lib.IsBuilderF 93 5 B b (Lib.byteCells l) w' ∧ Below B w w' ∧ Lib.OthersKept 5 (some b) w w') := Any.Builder_String_any_k Tryz.lays169 Tryz.Builder_Extra_169 B b l w h hBw
def Tryz.laysM171_ren : Go.Shelf.Ren := ⟨fun | 171 => 74 | 243 => 89 | 246 => 104 | 283 => 112 | 284 => 113 | 285 => 114 | 286 => 115 | 129 => 118 | 317 => 117 | 318 => 119 | 319 => 120 | 320 => 121 | 337 => 122 | 338 => 123 | n => n, fun | 3 => 3 | 9 => 9 | 2 => 2 | 4 => 4 | 171 => 132 | 0 => 0 | 53 => 126 | 37 => 91 | 5 => 5 | 173 => 135 | 212 => 139 | 51 => 123 | 20 => 20 | 213 => 140 | 46 => 113 | 232 => 143 | 233 => 144 | n => n, fun | 17 => 1 | 18 => 2 | 19 => 3 | n => n⟩
theorem Tryz.laysM171 : Go.Proofs.LaysM.n171 Tryz.prog Tryz.laysM171_ren := {
  mixed := by kernel_rfl
  f129 := Tryz.func118.trans (congrArg some (by kernel_rfl))
  f171 := Tryz.func74.trans (congrArg some (by kernel_rfl))
  f243 := Tryz.func89.trans (congrArg some (by kernel_rfl))
  f246 := Tryz.func104.trans (congrArg some (by kernel_rfl))
  f283 := Tryz.func112.trans (congrArg some (by kernel_rfl))
  f284 := Tryz.func113.trans (congrArg some (by kernel_rfl))
  f285 := Tryz.func114.trans (congrArg some (by kernel_rfl))
  f286 := Tryz.func115.trans (congrArg some (by kernel_rfl))
  f317 := Tryz.func117.trans (congrArg some (by kernel_rfl))
  f318 := Tryz.func119.trans (congrArg some (by kernel_rfl))
  f319 := Tryz.func120.trans (congrArg some (by kernel_rfl))
  f320 := Tryz.func121.trans (congrArg some (by kernel_rfl))
  f337 := Tryz.func122.trans (congrArg some (by kernel_rfl))
  f338 := Tryz.func123.trans (congrArg some (by kernel_rfl))
  t0 := Tryz.underlying0
  a0 := Tryz.isAgg0
  z0 := Tryz.sizeOf0
  v0 := Tryz.zeroValue0
  t2 := Tryz.underlying2
  a2 := Tryz.isAgg2
  z2 := Tryz.sizeOf2
  v2 := Tryz.zeroValue2
  t3 := Tryz.underlying3
  a3 := Tryz.isAgg3
  z3 := Tryz.sizeOf3
  v3 := Tryz.zeroValue3
  t4 := Tryz.underlying4
  a4 := Tryz.isAgg4
  z4 := Tryz.sizeOf4
  v4 := Tryz.zeroValue4
  t5 := Tryz.underlying5
  a5 := Tryz.isAgg5
  z5 := Tryz.sizeOf5
  v5 := Tryz.zeroValue5
  t9 := Tryz.underlying9
  a9 := Tryz.isAgg9
  z9 := Tryz.sizeOf9
  v9 := Tryz.zeroValue9
  t20 := Tryz.underlying20
  a20 := Tryz.isAgg20
  z20 := Tryz.sizeOf20
  v20 := Tryz.zeroValue20
  t37 := Tryz.underlying91
  a37 := Tryz.isAgg91
  z37 := Tryz.sizeOf91
  v37 := Tryz.zeroValue91
  t46 := Tryz.underlying113
  a46 := Tryz.isAgg113
  z46 := Tryz.sizeOf113
  v46 := Tryz.zeroValue113
  t51 := Tryz.underlying123
  a51 := Tryz.isAgg123
  z51 := Tryz.sizeOf123
  v51 := Tryz.zeroValue123
  t53 := Tryz.underlying126
  a53 := Tryz.isAgg126
  z53 := Tryz.sizeOf126
  v53 := Tryz.zeroValue126
  t171 := Tryz.underlying132
  a171 := Tryz.isAgg132
  z171 := Tryz.sizeOf132
  v171 := Tryz.zeroValue132
  t173 := Tryz.underlying135
  a173 := Tryz.isAgg135
  z173 := Tryz.sizeOf135
  v173 := Tryz.zeroValue135
  t212 := Tryz.underlying139
  a212 := Tryz.isAgg139
  z212 := Tryz.sizeOf139
  v212 := Tryz.zeroValue139
  t213 := Tryz.underlying140
  a213 := Tryz.isAgg140
  z213 := Tryz.sizeOf140
  t232 := Tryz.underlying143
  a232 := Tryz.isAgg143
  z232 := Tryz.sizeOf143
  v232 := Tryz.zeroValue143
  t233 := Tryz.underlying144
  a233 := Tryz.isAgg144
  z233 := Tryz.sizeOf144
  v233 := Tryz.zeroValue144
  g17 := by kernel_rfl
  g18 := by kernel_rfl
  g19 := by kernel_rfl
  i0 := by kernel_rfl
  i2 := by kernel_rfl
  i3 := by kernel_rfl
  i4 := by kernel_rfl
  i5 := by kernel_rfl
  i9 := by kernel_rfl
  i20 := by kernel_rfl
  i37 := by kernel_rfl
  i46 := by kernel_rfl
  i51 := by kernel_rfl
  i53 := by kernel_rfl
  i171 := by kernel_rfl
  i173 := by kernel_rfl
  i212 := by kernel_rfl
  i232 := by kernel_rfl
  i233 := by kernel_rfl
  m17 := by kernel_rfl
  m18 := by kernel_rfl
  m19 := by kernel_rfl }
open Go.RowKit Go.Sort Go.Lib in
/-- strconv.Itoa: "Itoa is equivalent to FormatInt(int64(i), 10).": i's DECIMAL NUMERAL ('Lib.itoa': a '-' where i is negative, then the digits), FOR EVERY int. The world behind the call: the world before it, new blocks behind the heap (the library's 'var a [24]byte'), draws. (LAID: no walk: one application.) -/
theorem Tryz.strconv_Itoa (n : Int) (h0 : -9223372036854775808 ≤ n) (h1 : n ≤ 9223372036854775807) (w : World) (htab : Lib.TabIs Tryz.prog w "internal/strconv.uint64pow10" .u64 Lib.pow10Tab) :
    Calls Tryz.prog 74 #[.int .i64 n] w fun e w' => e = .returned (.string ⟨(Lib.itoa n).toArray⟩) ∧ ∃ k os, w' = grow (w.drewN k) os := Any.strconv_Itoa Tryz.laysM171 n h0 h1 w htab
def Tryz.lays105_ren : Go.Shelf.Ren := ⟨fun | 105 => 75 | 212 => 90 | 99 => 91 | 165 => 92 | 166 => 76 | 170 => 93 | 169 => 77 | 263 => 105 | 264 => 106 | 206 => 107 | 240 => 94 | 241 => 108 | 276 => 109 | 277 => 116 | n => n, fun | 9 => 9 | 3 => 3 | 4 => 4 | 20 => 20 | 0 => 0 | 46 => 113 | 109 => 114 | 5 => 5 | 72 => 93 | 76 => 101 | 51 => 123 | 146 => 124 | 53 => 126 | 148 => 127 | 70 => 90 | 37 => 91 | 75 => 100 | 127 => 118 | 164 => 129 | 80 => 84 | n => n, fun | n => n⟩
theorem Tryz.lays105 : Go.Proofs.Lays.n105 Tryz.prog Tryz.lays105_ren := {
  mixed := by kernel_rfl
  f99 := Tryz.func91.trans (congrArg some (by kernel_rfl))
  f105 := Tryz.func75.trans (congrArg some (by kernel_rfl))
  f165 := Tryz.func92.trans (congrArg some (by kernel_rfl))
  f166 := Tryz.func76.trans (congrArg some (by kernel_rfl))
  f169 := Tryz.func77.trans (congrArg some (by kernel_rfl))
  f170 := Tryz.func93.trans (congrArg some (by kernel_rfl))
  f206 := Tryz.func107.trans (congrArg some (by kernel_rfl))
  f212 := Tryz.func90.trans (congrArg some (by kernel_rfl))
  f240 := Tryz.func94.trans (congrArg some (by kernel_rfl))
  f241 := Tryz.func108.trans (congrArg some (by kernel_rfl))
  f263 := Tryz.func105.trans (congrArg some (by kernel_rfl))
  f264 := Tryz.func106.trans (congrArg some (by kernel_rfl))
  f276 := Tryz.func109.trans (congrArg some (by kernel_rfl))
  f277 := Tryz.func116.trans (congrArg some (by kernel_rfl))
  t0 := Tryz.underlying0
  a0 := Tryz.isAgg0
  z0 := Tryz.sizeOf0
  v0 := Tryz.zeroValue0
  t3 := Tryz.underlying3
  a3 := Tryz.isAgg3
  z3 := Tryz.sizeOf3
  v3 := Tryz.zeroValue3
  t4 := Tryz.underlying4
  a4 := Tryz.isAgg4
  z4 := Tryz.sizeOf4
  v4 := Tryz.zeroValue4
  t5 := Tryz.underlying5
  a5 := Tryz.isAgg5
  z5 := Tryz.sizeOf5
  v5 := Tryz.zeroValue5
  t9 := Tryz.underlying9
  a9 := Tryz.isAgg9
  z9 := Tryz.sizeOf9
  v9 := Tryz.zeroValue9
  t20 := Tryz.underlying20
  a20 := Tryz.isAgg20
  z20 := Tryz.sizeOf20
  v20 := Tryz.zeroValue20
  t37 := Tryz.underlying91
  a37 := Tryz.isAgg91
  z37 := Tryz.sizeOf91
  v37 := Tryz.zeroValue91
  t46 := Tryz.underlying113
  a46 := Tryz.isAgg113
  z46 := Tryz.sizeOf113
  v46 := Tryz.zeroValue113
  t51 := Tryz.underlying123
  a51 := Tryz.isAgg123
  z51 := Tryz.sizeOf123
  v51 := Tryz.zeroValue123
  t53 := Tryz.underlying126
  a53 := Tryz.isAgg126
  z53 := Tryz.sizeOf126
  v53 := Tryz.zeroValue126
  t70 := Tryz.underlying90
  a70 := Tryz.isAgg90
  z70 := Tryz.sizeOf90
  v70 := Tryz.zeroValue90
  t72 := Tryz.underlying93
  a72 := Tryz.isAgg93
  z72 := Tryz.sizeOf93
  v72 := Tryz.zeroValue93
  t75 := Tryz.underlying100
  a75 := Tryz.isAgg100
  z75 := Tryz.sizeOf100
  v75 := Tryz.zeroValue100
  t76 := Tryz.underlying101
  a76 := Tryz.isAgg101
  z76 := Tryz.sizeOf101
  v76 := Tryz.zeroValue101
  t109 := Tryz.underlying114
  a109 := Tryz.isAgg114
  z109 := Tryz.sizeOf114
  v109 := Tryz.zeroValue114
  t127 := Tryz.underlying118
  a127 := Tryz.isAgg118
  z127 := Tryz.sizeOf118
  v127 := Tryz.zeroValue118
  t146 := Tryz.underlying124
  a146 := Tryz.isAgg124
  z146 := Tryz.sizeOf124
  v146 := Tryz.zeroValue124
  t148 := Tryz.underlying127
  a148 := Tryz.isAgg127
  z148 := Tryz.sizeOf127
  v148 := Tryz.zeroValue127
  t164 := Tryz.underlying129
  a164 := Tryz.isAgg129
  z164 := Tryz.sizeOf129
  v164 := Tryz.zeroValue129 }
theorem Tryz.Builder_Extra_105 : Builder.Extra Tryz.prog Tryz.lays105_ren := {
  sizeBuilder := by kernel_rfl
  liesBuilder := by kernel_rfl
  t5 := Tryz.underlying5
  a5 := Tryz.isAgg5
  z5 := Tryz.sizeOf5
  v5 := Tryz.zeroValue5
  infoByte := by kernel_rfl
  cellsByte := by kernel_rfl
  sizeByte := by kernel_rfl
  neB5 := by decide }
open Go.RowKit Go.Lib in
/-- **strings.Repeat: count ≥ 0, the result within one allocation: count copies of s.** (LAID: no walk: one application.) -/
theorem Tryz.strings_Repeat (s : ByteArray) (c : Nat) (w : World) (hc : c ≤ 9223372036854775807) (hlen : s.size * c ≤ 140737488355328) :
    Calls Tryz.prog 75 #[.string s, .int .i64 c] w fun e w' => e = .returned (.string ⟨(Lib.repeatL s.data.toList c).toArray⟩) ∧ Below w.heap.size w w' := Any.strings_Repeat Tryz.lays105 Tryz.Builder_Extra_105 s c w hc hlen
end Go.Proofs
end

section
namespace Go.Proofs.YthbibdpbfgoghaaGreatDoor.Q
open Go.RowKit Go.Proofs.YthbibdpbfgoghaaGreatDoor.Q Go.Proofs.YthbibdpbfgoghaaGreatDoorW.PrintWords Go.Proofs.YthbibdpbfgoghaaGreatDoorW.PrintLast Go.Proofs.YthbibdpbfgoghaaGreatDoorW.PrintMore
set_option linter.unusedVariables false
set_option linter.unusedSimpArgs false
/-- The table that strconv reads is laid. -/
def Laid (w : World) : Prop := Lib.TabIs Tryz.prog w "internal/strconv.uint64pow10" .u64 Lib.pow10Tab
theorem gPow : ∃ g, Tryz.prog.globalNamed "internal/strconv.uint64pow10" = some g := Option.isSome_iff_exists.1 (by kernel_rfl)
theorem laid_below {w W : World} (h : Laid w) (hb : Below w.heap.size w W) : Laid W := by
  obtain ⟨g, hg⟩ := gPow
  unfold Laid Lib.TabIs World.var? at h ⊢
  simp only [hg, Option.bind_some] at h ⊢
  have hlt : g < w.heap.size := by
    rcases Nat.lt_or_ge g w.heap.size with h' | h'
    · exact h'
    · simp [Array.getElem?_eq_none h'] at h
  rw [hb.block g hlt]
  exact h
end Go.Proofs.YthbibdpbfgoghaaGreatDoor.Q
end

section
namespace Go.Proofs.YthbibdpbfgoghaaGreatDoor.Q
open Go.Shelf
open Go.RowKit Go.Proofs.YthbibdpbfgoghaaGreatDoor.Q Go.Proofs.YthbibdpbfgoghaaGreatDoorW.PrintWords Go.Proofs.YthbibdpbfgoghaaGreatDoorW.PrintLast Go.Proofs.YthbibdpbfgoghaaGreatDoorW.PrintMore
set_option linter.unusedVariables false
set_option linter.unusedSimpArgs false
attribute [local go_sem] Oper.semAt_some
theorem piece_len (m : Int) (x : Limb) : (piece m x.1).length ≤ 4 := by
  have := itoa_len x.1.2 x.2.1 x.2.2
  unfold piece
  split
  · rw [List.length_append, Lib.repeatL_length]; simp only [List.length_cons, List.length_nil]; omega
  · exact this
theorem pieces_len (m : Int) : ∀ pre : List Limb, (pre.flatMap fun x => piece m x.1).length ≤ 4 * pre.length
  | [] => by simp
  | x :: pre => by
    have h1 := piece_len m x
    have h2 := pieces_len m pre
    rw [List.flatMap_cons, List.length_append, List.length_cons]
    omega
theorem text_round {w W wm w3 : World} {n B0 : Nat} {m : Int} {cs : Array Value} {pre : List Limb} {x : Limb} {s : ByteArray} (hn : n = w.heap.size)
    (tB : Lib.IsBuilderF 93 5 w.heap.size (w.heap.size + 1) (Lib.byteCells (pre.flatMap fun x => piece m x.1)) W) (t1 : CellsAt W w.heap.size 76 cs) (t0 : CellsAt W (w.heap.size + 1 + 1) 76 cs) (tb : Below w.heap.size w W) (hb : Below W.heap.size W wm)
    (hB3 : Lib.BuilderAtF 93 5 w.heap.size (w.heap.size + 1) (.pointer (some ⟨w.heap.size + 1, 0, none⟩)) (Lib.byteCells (pre.flatMap fun x => piece m x.1) ++ Lib.strCells s) w3) (hb3 : Below w.heap.size wm w3) (hk3 : Lib.OthersKept 5 (some (w.heap.size + 1)) wm w3) (hs : s.data.toList = piece m x.1) :
    KeepsFrom B0 W w3 ∧ KpB w.heap.size (w.heap.size + 1 + 1) W w3 ∧ ((Lib.IsBuilderF 93 5 w.heap.size (w.heap.size + 1) (Lib.byteCells ((pre ++ [x]).flatMap fun x => piece m x.1)) w3 ∧ CellsAt w3 w.heap.size 76 cs) ∧ CellsAt w3 (w.heap.size + 1 + 1) 76 cs) ∧ Below w.heap.size w w3 := by
  have tBm := builder_below tB hb
  have hcell : ∃ cs t fz, wm.heap[w.heap.size + 1]? = some (.cells cs t fz) := by
    obtain h | h := tBm <;> (obtain ⟨_, v, hbk, _⟩ := h; exact ⟨_, _, _, hbk⟩)
  have hno : ∀ c fz, (Obj.cells cs 76 (0, 0)) ≠ .cells c 5 fz := fun c fz e => by injection e with _ e2 _; exact absurd e2 (by decide)
  have k1 : CellsAt w3 w.heap.size 76 cs := hk3 _ _ (t1.below hb t1.lt) (by simp) hno
  have k0 : CellsAt w3 (w.heap.size + 1 + 1) 76 cs := hk3 _ _ (t0.below hb t0.lt) (by simp) hno
  have hbW : Below w.heap.size W wm := hb.mono tb.size
  refine ⟨(keepsFrom_of_below hb).trans (keepsFrom_of_others hb3.size hk3 hcell), ⟨hbW.trans hb3, k0.trans t0.symm⟩, ⟨⟨.inr ?_, k1⟩, k0⟩, (tb.trans hbW).trans hb3⟩
  rw [List.flatMap_append, List.flatMap_singleton, Lib.byteCells_append, ← hs]
  exact hB3
set_option maxRecDepth 100000 in
set_option maxHeartbeats 4000000 in
theorem impl_text.calls (A0 : Option Addr) (c0 : Nat) (l0 : List Int) (w : World) (hlaid : Laid w) (hr0 : Kd.C (Kd.int .i64) w A0 l0.length l0) (hc0 : l0.length ≤ c0) (hz : ∀ y ∈ l0, 0 ≤ y ∧ y ≤ 9999) (hlen : l0.length ≤ 1000000) :
    Calls Tryz.prog 63 #[.slice A0 l0.length c0] w fun e w' => e = .returned (.string ⟨(textF l0).toArray⟩) ∧ Below w.heap.size w w' := by
  have HR0 := Aside0.mk hr0
  have HC0 := Aside0.mk hc0
  have HL := Aside0.mk hlen
  clear hr0 hc0 hlen
  by_cases hnil : l0 = []
  · subst hnil
    refine (callsIn_wide (n := 9)).1 ?_
    refine callsIn_of_wp_marks Tryz.func63 rfl trivial ?_ rfl
    simp only [Tryz.ntmps63, List.size_toArray, List.length_cons, List.length_nil, Nat.reduceAdd, Nat.reduceSub, Array.replicate_succ, Array.replicate_zero, List.push_toArray, List.append_toArray, List.nil_append, List.cons_append]
    gi_wp2
    exact ⟨_, results_tmp rfl _ _ _, rfl, (Below.refl _ w).alloc (Nat.le_refl _) _⟩
  · have hn : (l0.length : Int) ≠ 0 := by have := List.length_pos_iff.2 hnil; omega
    have hn1 : ((l0.length : Int) == 0) = false := beq_eq_false_iff_ne.mpr hn
    refine (callsIn_wide (n := 9)).1 ?_
    refine callsIn_of_wp_marks Tryz.func63 rfl trivial ?_ rfl
    simp only [Tryz.ntmps63, List.size_toArray, List.length_cons, List.length_nil, Nat.reduceAdd, Nat.reduceSub, Array.replicate_succ, Array.replicate_zero, List.push_toArray, List.append_toArray, List.nil_append, List.cons_append]
    gi_wp2_with (refine ⟨trivial, ?_⟩; gi_at_call 73; refine (backI_in Fence.wide _ trivial rfl _ _ _ _).mono ?_; rintro e w6 ⟨rfl, hw6⟩)
    have e0 : ((upto (limbAt l0 hz) l0.length).flatMap fun x => piece l0.length x.1) = textF l0 := by
      unfold textF upto
      rw [if_neg hnil, List.flatMap_map, List.flatMap_map]
      rfl
    obtain ⟨W0, hW0⟩ : ∃ W0, ((w.alloc (.cells #[.slice A0 l0.length c0] 76)).alloc (.cells #[.pointer none, .slice none 0 0] 93)).alloc (.cells #[.slice A0 l0.length c0] 76) = W0 := ⟨_, rfl⟩
    have s1 : CellsAt W0 w.heap.size 76 #[.slice A0 l0.length c0] := by rw [← hW0]; exact ((CellsAt.new w _ _).alloc _).alloc _
    have s0 : CellsAt W0 (w.heap.size + 1 + 1) 76 #[.slice A0 l0.length c0] := by rw [← hW0]; have := CellsAt.new ((w.alloc (.cells #[.slice A0 l0.length c0] 76)).alloc (.cells #[.pointer none, .slice none 0 0] 93)) 76 #[.slice A0 l0.length c0]; rwa [World.size_alloc, World.size_alloc] at this
    have sB : Lib.IsBuilderF 93 5 w.heap.size (w.heap.size + 1) (Lib.byteCells []) W0 := by
      have h : CellsAt W0 (w.heap.size + 1) 93 #[.pointer none, .slice none 0 0] := by rw [← hW0]; have := (CellsAt.new (w.alloc (.cells #[.slice A0 l0.length c0] 76)) 93 #[.pointer none, .slice none 0 0]).alloc (.cells #[.slice A0 l0.length c0] 76); rwa [World.size_alloc] at this
      exact .inl ⟨by omega, .slice none 0 0, h, World.ownsRowF_nil _ _ _ _, by simp [Value.ownBlock]⟩
    have hsz : W0.heap.size = w.heap.size + 1 + 1 + 1 := by rw [← hW0]; simp
    have hBW0 : Below w.heap.size w W0 := by rw [← hW0]; exact (((Below.refl _ w).alloc (Nat.le_refl _) _).alloc (by simp) _).alloc (by simp; omega) _
    rw [hW0]
    clear hW0 hw6
    refine wpIn_rangeFunc_ownH rfl (by decide) (gf := 88) (lb := #[.pointer (some ⟨w.heap.size + 1 + 1, 0, none⟩)]) rfl trivial (enters_of Tryz.func88 (by kernel_rfl) rfl)
      (backI_stops (fun x : Limb => x.1) (limbAt l0 hz) Fence.wide _ trivial rfl (by decide) (w.heap.size + 1 + 1) w A0 c0 l0 HC0.out (by have := HL.out; omega) HR0.out (fun _ _ => rfl) W0 hBW0 s0) KpB.trans (kpB_b (by omega) (by omega)) (Below.refl _ _) (fun _ => rfl)
      (fun pre W => ((Lib.IsBuilderF 93 5 w.heap.size (w.heap.size + 1) (Lib.byteCells (pre.flatMap fun x => piece l0.length x.1)) W ∧ CellsAt W w.heap.size 76 #[.slice A0 l0.length c0]) ∧ CellsAt W (w.heap.size + 1 + 1) 76 #[.slice A0 l0.length c0]) ∧ Below w.heap.size w W)
      (fun _ _ _ => False)
      (OwnFrom.and (OwnFrom.and (OwnFrom.and (Own.from (builder_own _ _ _ _ _) _) (Own.from (cellsAt_own _ _ _) _)) (Own.from (cellsAt_own _ _ _) _)) (ownFrom_below (Nat.le_refl _) (by omega)))
      (fun _ _ _ _ _ hs _ _ => hs)
      ⟨⟨⟨sB, s1⟩, s0⟩, hBW0⟩
      (fun x a' _ => a' = { tmps := #[.slice A0 l0.length c0, .pointer (some ⟨w.heap.size, 0, none⟩), .string ⟨#[]⟩, .pointer (some ⟨w.heap.size + 1, 0, none⟩), .int .i64 x.1.1, .int .i64 x.1.2, undef, .slice A0 l0.length c0, .int .i64 l0.length, .bool false, .slice A0 l0.length c0, .func (.func 88) #[] #[.pointer (some ⟨w.heap.size + 1 + 1, 0, none⟩)], .int .i64 x.1.1, .int .i64 x.1.2, undef, undef, undef, undef, undef, undef, undef, undef, undef, undef, undef, undef, undef, undef, undef, undef], defers := [] })
      (fun _ _ _ _ _ _ hs _ _ => hs)
      ?assign ?body ?done ?stop
    case assign =>
      rintro l pre x W K hI hK
      simp only [encI]
      gi_wp2
      exact hK _ _ (KeepsFrom.refl _ _) (KpB.refl _ _ _) hI rfl
    case body =>
      rintro l pre x a' W hl ⟨r, hr⟩ ⟨⟨⟨tB, t1⟩, t0⟩, tb⟩ rfl hlt
      have hx0 := x.2.1
      have hx1 := x.2.2
      have u1 : W.cell? ⟨w.heap.size, 0, none⟩ = some (.slice A0 l0.length c0) := t1.cell 0
      have hl4 := itoa_len x.1.2 hx0 hx1
      gi_wp2
      refine ⟨trivial, ?_⟩
      refine (CallsIn.inRound l (callsIn_wide.2 (Tryz.strconv_Itoa x.1.2 (by omega) (by omega) W (laid_below hlaid tb)))).mono ?_
      rintro e w1 ⟨rfl, k1, os1, hw1⟩
      have hb1 : Below W.heap.size W w1 := by rw [hw1]; exact Go.Lib.below_grow _ _ (Nat.le_refl _) _ _
      have u1' : w1.cell? ⟨w.heap.size, 0, none⟩ = some (.slice A0 l0.length c0) := (t1.below hb1 t1.lt).cell 0
      have ew : wrap64 ((l0.length : Int) - 1) = (l0.length : Int) - 1 := by have := HL.out; unfold wrap64; omega
      clear hw1
      by_cases hlt2 : x.1.1 < (l0.length : Int) - 1
      · have hd : decide (x.1.1 < (l0.length : Int) - 1) = true := decide_eq_true hlt2
        gi_wp2
        refine ⟨trivial, ?_⟩
        have hc : (4 - ((Lib.itoa x.1.2).length : Int)) = ((4 - (Lib.itoa x.1.2).length : Nat) : Int) := by omega
        rw [hc]
        refine (CallsIn.inRound l (callsIn_wide.2 (Tryz.strings_Repeat ⟨#[48]⟩ (4 - (Lib.itoa x.1.2).length) w1 (by omega) (by show 1 * _ ≤ _; omega)))).mono ?_
        rintro e w2 ⟨rfl, hb2⟩
        have hrl := Lib.repeatL_length [48] (4 - (Lib.itoa x.1.2).length)
        have hov : (9223372036854775807 < (Lib.repeatL [48] (4 - (Lib.itoa x.1.2).length)).length + (Lib.itoa x.1.2).length) = False := eq_false (by rw [hrl]; simp only [List.length_cons, List.length_nil]; omega)
        gi_wp2
        refine ⟨trivial, ?_⟩
        refine (CallsIn.inRound l (callsIn_wide.2 (bld_WriteString w.heap.size (w.heap.size + 1) _ _ w2 (builder_below (builder_below tB hb1) hb2) (by rw [Lib.byteCells_length]; have := pieces_len l0.length pre; have := HL.out; rw [ByteArray.size_append]; have e1 : (⟨(Lib.repeatL [48] (4 - (Lib.itoa x.1.2).length)).toArray⟩ : ByteArray).size = (Lib.repeatL [48] (4 - (Lib.itoa x.1.2).length)).length := rfl; have e2 : (⟨(Lib.itoa x.1.2).toArray⟩ : ByteArray).size = (Lib.itoa x.1.2).length := rfl; rw [e1, e2, hrl]; simp only [List.length_cons, List.length_nil]; omega) (by have := tb.size; have := hb1.size; have := hb2.size; omega)))).mono ?_
        rintro e w3 ⟨rfl, hB3, hb3, hk3⟩
        gi_wp2
        exact text_round rfl tB t1 t0 tb (hb1.trans (hb2.mono hb1.size)) hB3 hb3 hk3 (by unfold piece; rw [if_pos hlt2]; simp)
      · have hd : decide (x.1.1 < (l0.length : Int) - 1) = false := decide_eq_false hlt2
        gi_wp2
        refine ⟨trivial, ?_⟩
        refine (CallsIn.inRound l (callsIn_wide.2 (bld_WriteString w.heap.size (w.heap.size + 1) _ _ w1 (builder_below tB hb1) (by rw [Lib.byteCells_length]; have := pieces_len l0.length pre; have := HL.out; have e2 : (⟨(Lib.itoa x.1.2).toArray⟩ : ByteArray).size = (Lib.itoa x.1.2).length := rfl; rw [e2]; omega) (by have := tb.size; have := hb1.size; omega)))).mono ?_
        rintro e w3 ⟨rfl, hB3, hb3, hk3⟩
        gi_wp2
        exact text_round rfl tB t1 t0 tb hb1 hB3 hb3 hk3 (by unfold piece; rw [if_neg (by omega)])
    case done =>
      rintro D ys W hD rfl ⟨⟨⟨tB, t1⟩, t0⟩, tb⟩ hK
      gi_wp2_with (refine ⟨trivial, ?_⟩; gi_at_call 77; refine (callsIn_wide.2 (Tryz.Builder_String_any_k w.heap.size (w.heap.size + 1) _ _ tB (by have := tb.size; omega))).mono ?_; rintro e w7 ⟨rfl, hb7, hb8, hok⟩)
      have hK7 := hok D _ hK (fun e' => by cases e'; obtain h | h := tB <;> (obtain ⟨_, v, hbk, _⟩ := h; rw [hK] at hbk; cases hbk)) (fun _ _ h => by cases h)
      refine ⟨by simp, .inl ⟨_, _, rfl, run_takeDeferred hK7, ?_⟩⟩
      refine ⟨_, results_tmp rfl _ _ _, ?_, (tb.trans hb8).trans (belowK_b (w := w) (Nat.le_refl _) w7 D _ _ (by omega) hK7 rfl rfl)⟩
      rw [← e0]
      rfl
    case stop =>
      rintro D c pre W _ _ h _
      exact h.elim
end Go.Proofs.YthbibdpbfgoghaaGreatDoor.Q
end

section
/-! Rf: what the contracts of the library say is what the run takes them to say. -/
set_option autoImplicit false
namespace Go.Proofs.YthbibdpbfgoghaaGreatDoor.R
open Go.Rf Go.RowKit
theorem ans_below {sp : Go.Rf.Spec} {out : sp.Out} {w w' : World} {Z : Nat → Prop} {args rvs : List Value} (hZ : ∀ b, Z b → b < w.heap.size) (hb : Below w.heap.size w w') (hr : ShsRep w' Z sp.rs out.1 rvs []) (hp : PostRep w w' Z sp.ps out.2 args []) :
    AnsS sp out w Z args [] (.returned (tupV rvs)) w' :=
  ⟨rvs, Z, [], [], rfl, hr, hp, by simp, (fun b hb => by cases hb), (fun b hb => hb), fun b hz => ⟨Nat.lt_of_lt_of_le (hZ b hz) hb.size, .inl hz⟩, ⟨hb.os, hb.tape, hb.output, hb.size, fun b hlt _ => hb.block b hlt, fun b o ho _ => (hb.block b (Array.getElem?_eq_some_iff.1 ho).1).trans ho⟩⟩
/-- two arguments of one cell each -/
theorem two_args {w : World} {Z : Nat → Prop} {s t : T} {x : s.D} {y : t.D} {args : List Value} {fp : List Nat} (h : ShsRep w Z [.c (.v s), .c (.v t)] (x, y, ()) args fp) : ∃ u v, args = [u, v] ∧ fp = [] ∧ rep w Z s x [u] ∧ rep w Z t y [v] := by
  match args, h with
  | [v1, v2], ⟨f, g, hfp, ⟨hv, hf⟩, ⟨f2, g2, hg2, ⟨hv2, hf2⟩, hg⟩⟩ =>
    obtain rfl : f = [] := hf
    obtain rfl : f2 = [] := hf2
    obtain rfl : g2 = [] := hg
    obtain rfl : g = [] := hg2
    obtain rfl : fp = [] := hfp
    exact ⟨v1, v2, rfl, rfl, hv, hv2⟩
theorem one_arg {w : World} {Z : Nat → Prop} {s : T} {x : s.D} {args : List Value} {fp : List Nat} (h : ShsRep w Z [.c (.v s)] (x, ()) args fp) : ∃ u, args = [u] ∧ fp = [] ∧ rep w Z s x [u] := by
  match args, h with
  | [v1], ⟨f, g, hfp, ⟨hv, hf⟩, hg⟩ =>
    obtain rfl : f = [] := hf
    obtain rfl : g = [] := hg
    obtain rfl : fp = [] := hfp
    exact ⟨v1, rfl, rfl, hv⟩
theorem str_arg {w : World} {Z : Nat → Prop} {s : ByteArray} {v : Value} (h : rep w Z .str s [v]) : v = .string s := (List.cons.inj (show [v] = [Value.string s] from h)).1
theorem int_arg {w : World} {Z : Nat → Prop} {k : IntKind} {n : Int} {v : Value} (h : rep w Z (.int k) n [v]) : v = .int k n := (List.cons.inj (show [v] = [Value.int k n] from h)).1
theorem post_two {w w' : World} {Z : Nat → Prop} {s t : T} {u v : Value} : PostRep w w' Z [.c (.v s), .c (.v t)] ((), (), ()) [u, v] [] := ⟨[], [], rfl, rfl, ⟨[], [], rfl, rfl, rfl⟩⟩
theorem post_one {w w' : World} {Z : Nat → Prop} {s : T} {u : Value} : PostRep w w' Z [.c (.v s)] ((), ()) [u] [] := ⟨[], [], rfl, rfl, rfl⟩
section
open Go.Proofs.YthbibdpbfgoghaaGreatDoor.Q Go.Proofs.YthbibdpbfgoghaaGreatDoorW.PrintWords
theorem text_parts (zs : List Int) : ∀ m, m ≤ zs.length → ((Q.upto (Q.bwI zs) m).flatMap (Q.piece (zs.length : Int))) = figs (zs.drop (zs.length - m)) := by
  intro m
  induction m with
  | zero =>
    intro _
    rw [Nat.sub_zero, List.drop_length]
    rfl
  | succ m ih =>
    intro hm
    obtain ⟨j, hj⟩ : ∃ j, j = zs.length - (m + 1) := ⟨_, rfl⟩
    have hj1 : zs.length - m = j + 1 := by omega
    have hjl : j < zs.length := by omega
    have e1 : Q.upto (Q.bwI zs) (m + 1) = Q.upto (Q.bwI zs) m ++ [Q.bwI zs m] := by
      unfold Q.upto
      rw [List.range_succ, List.map_append]
      rfl
    have e2 : Q.bwI zs m = ((j : Int), zs.getD j 0) := by
      unfold Q.bwI
      have : (zs.length : Int) - 1 - (m : Int) = (j : Int) := by omega
      rw [this]
      rfl
    rw [e1, List.flatMap_append, ih (by omega), List.flatMap_singleton, e2, hj1, ← hj]
    unfold Q.piece
    by_cases h : j + 1 < zs.length
    · rw [if_pos (show ((j : Int), zs.getD j 0).1 < (zs.length : Int) - 1 by show (j : Int) < _; omega), figs_drop h]
      rfl
    · have hl : zs.length = j + 1 := by omega
      rw [if_neg (show ¬ ((j : Int), zs.getD j 0).1 < (zs.length : Int) - 1 by show ¬ (j : Int) < _; omega), figs_last hl, List.drop_eq_nil_of_le (by omega)]
      rfl
theorem textF_eq (l : List Int) : (⟨(Q.textF l).toArray⟩ : ByteArray) = textL l := by
  unfold Q.textF
  cases l with
  | nil => rfl
  | cons d l =>
    rw [if_neg (by simp)]
    have := text_parts (d :: l) (d :: l).length (Nat.le_refl _)
    rw [Nat.sub_self, List.drop_zero] at this
    exact congrArg (fun x : List UInt8 => (⟨x.toArray⟩ : ByteArray)) this
theorem reps_ints {w : World} {Z : Nat → Prop} : ∀ {l : List Int} {vs : List Value}, reps (rep w Z (.int .i64)) l vs → vs = l.map (Value.int .i64)
  | [], vs, h => h
  | x :: l, vs, h => by
    obtain ⟨c, d, rfl, h1, h2⟩ := h
    rw [reps_ints h2, show c = [.int .i64 x] from h1]
    rfl
theorem reads_of {w : World} {Z : Nat → Prop} {l : List Int} {v : Value} (h : rep w Z (.sl (.int .i64)) l [v]) (hl : l.length ≤ 1000000) : ∃ A c, v = .slice A l.length c ∧ l.length ≤ c ∧ Kd.C (Kd.int .i64) w A l.length l := by
  obtain ⟨A, c, vs, h1, h2, h3, h4⟩ := h
  obtain rfl := reps_ints h3
  refine ⟨A, c, (List.cons.inj h1).1, h2, rfl, by omega, fun h0 => ?_⟩
  have at' : ∀ j p, l[j]? = some p → ∃ a : Addr, A = some a ∧ w.cell? (a.add j) = some (.int .i64 p) := fun j p hp => by
    obtain ⟨a, ha, _, _, hc⟩ := h4 j (.int .i64 p) (by rw [List.getElem?_map, hp]; rfl)
    exact ⟨a, ha, hc⟩
  obtain ⟨a, ha, _⟩ := at' 0 l[0] (List.getElem?_eq_getElem h0)
  refine ⟨a, ha, fun j p hp => ⟨[.int .i64 p], rfl, rfl, fun i u hu => ?_⟩⟩
  obtain ⟨a', ha', hc⟩ := at' j p hp
  obtain rfl := Option.some.inj (ha.symm.trans ha')
  cases i with
  | zero =>
    obtain rfl := Option.some.inj hu
    have : j * 1 + 0 = j := by omega
    show w.cell? (a.add (j * 1 + 0)) = _
    rw [this]
    exact hc
  | succ i => simp at hu
end
theorem gPow : Tryz.prog.globalNamed "internal/strconv.uint64pow10" = some powG := by kernel_rfl
theorem laid_of {w : World} {Z : Nat → Prop} (h : GL cx w Z) : Q.Laid w := by
  obtain ⟨_, cs, t, fz, hh, rfl⟩ := h.2 powG (fun cs => cs = powCells) (by show objsR powG = _; unfold objsR; simp)
  unfold Q.Laid Lib.TabIs World.var?
  rw [gPow, Option.bind_some, hh]
  rfl
theorem text_contract (inp : (cx.spec 63).In) (out : (cx.spec 63).Out) (h : textR inp = some out) : Contract cx 63 inp out := by
  obtain ⟨l, _⟩ := inp
  unfold textR at h
  split at h
  · rename_i hok
    obtain rfl := Option.some.inj h
    unfold limbsOk at hok
    simp only [Bool.and_eq_true, List.all_eq_true, decide_eq_true_eq] at hok
    intro w Z args fp hrep _ _ hZ hGL
    match args, hrep with
    | [v], ⟨f, g, hfp, ⟨hv, hf⟩, hg⟩ =>
      obtain rfl : f = [] := hf
      obtain rfl : g = [] := hg
      obtain rfl : fp = [] := hfp
      obtain ⟨A, c, rfl, hc, hK⟩ := reads_of hv hok.2
      refine (Q.impl_text.calls A c l w (laid_of hGL) hK hc hok.1 hok.2).mono ?_
      rintro e w' ⟨rfl, hb⟩
      rw [textF_eq]
      refine ⟨[.string (textL l)], Z, [], [], rfl, ⟨[], [], rfl, ⟨rfl, rfl⟩, rfl⟩, ⟨[], [], rfl, rfl, rfl⟩, by simp, (fun b hb => by cases hb), (fun b hb => hb), fun b hz => ⟨Nat.lt_of_lt_of_le (hZ b hz) hb.size, .inl hz⟩, ⟨hb.os, hb.tape, hb.output, hb.size, fun b hlt _ => hb.block b hlt, fun b o ho _ => (hb.block b (Array.getElem?_eq_some_iff.1 ho).1).trans ho⟩⟩
  · cases h
theorem compare_contract (inp : (cx.spec 68).In) (out : (cx.spec 68).Out) (h : compareR inp = some out) : Contract cx 68 inp out := by
  obtain ⟨a, b, _⟩ := inp
  obtain rfl := Option.some.inj h
  intro w Z args fp hrep _ _ hZ hGL
  match args, hrep with
  | [v1, v2], ⟨f, g, hfp, ⟨hv, hf⟩, ⟨f2, g2, hg2, ⟨hv2, hf2⟩, hg⟩⟩ =>
    obtain rfl : f = [] := hf
    obtain rfl : f2 = [] := hf2
    obtain rfl : g2 = [] := hg
    obtain rfl : g = [] := hg2
    obtain rfl : fp = [] := hfp
    have e1 : v1 = .string a := (List.cons.inj (show [v1] = [Value.string a] from hv)).1
    have e2 : v2 = .string b := (List.cons.inj (show [v2] = [Value.string b] from hv2)).1
    subst e1
    subst e2
    refine (Tryz.strings_Compare a b w).mono ?_
    rintro e w' ⟨rfl, rfl⟩
    refine ⟨[.int .i64 (Lib.compareBytes a.data.toList b.data.toList)], Z, [], [], rfl, ⟨[], [], rfl, ⟨rfl, rfl⟩, rfl⟩, ⟨[], [], rfl, rfl, ⟨[], [], rfl, rfl, rfl⟩⟩, by simp, (fun b hb => by cases hb), (fun b hb => hb), fun b hz => ⟨hZ b hz, .inl hz⟩, ⟨rfl, rfl, rfl, Nat.le_refl _, fun b hlt _ => rfl, fun b o ho _ => ho⟩⟩
theorem told (k f : Nat) (inp : (cx.spec f).In) (out : (cx.spec f).Out) (h : callF cx k f inp = some out) : Go.Rf.Contract cx f inp out := (Go.Rf.run_ok good (fun f g inp out h h2 => by
  have h : extR f = some g := h
  by_cases e63 : f = 63
  · subst e63
    obtain rfl := Option.some.inj h
    exact text_contract inp out h2
  by_cases e68 : f = 68
  · subst e68
    obtain rfl := Option.some.inj h
    exact compare_contract inp out h2
  · exfalso
    unfold extR at h
    split at h
    · exact e63 rfl
    · exact e68 rfl
    · cases h) k).1 f inp out h
end Go.Proofs.YthbibdpbfgoghaaGreatDoor.R
end

section
/-! Rf: the row of a law, out of its pure statement. -/
set_option autoImplicit false
namespace Go.Proofs.YthbibdpbfgoghaaGreatDoor.fnExactRowOrder
open Go.Rf Go.Proofs.YthbibdpbfgoghaaGreatDoor.R Go.ChangeShapes Go.WideShapes Go.ChangeAt Go.RowKit
set_option linter.unusedVariables false
theorem walk (P : PureFnExactRowOrder) (w : World) (hGL : GL cx w (Here w)) (v0 : Value) (y0 : (vSh ⟨false, [.sl (.pair (.int .i64) (.pair .bool (.pair .bool (.pair (.sl (.int .i64)) (.pair (.int .i64) (.pair (.int .i64) (.pair (.int .i64) (.pair (.int .i64) (.pair .str .unit)))))))))], [], 24⟩).D) (v1 : Value) (y1 : (vSh ⟨false, [.sl (.pair (.int .i64) (.pair .bool (.pair .bool (.pair (.sl (.int .i64)) (.pair (.int .i64) (.pair (.int .i64) (.pair (.int .i64) (.pair (.int .i64) (.pair .str .unit)))))))))], [], 24⟩).D) (v2 : Value) (y2 : (vSh ⟨false, [.sl (.int .i64)], [], 24⟩).D) (v3 : Value) (y3 : (vSh ⟨false, [.sl .bool], [], 24⟩).D) (h0 : ShRep w (Here w) (vSh ⟨false, [.sl (.pair (.int .i64) (.pair .bool (.pair .bool (.pair (.sl (.int .i64)) (.pair (.int .i64) (.pair (.int .i64) (.pair (.int .i64) (.pair (.int .i64) (.pair .str .unit)))))))))], [], 24⟩) y0 v0 []) (w0 : shWf (vSh ⟨false, [.sl (.pair (.int .i64) (.pair .bool (.pair .bool (.pair (.sl (.int .i64)) (.pair (.int .i64) (.pair (.int .i64) (.pair (.int .i64) (.pair (.int .i64) (.pair .str .unit)))))))))], [], 24⟩) y0) (h1 : ShRep w (Here w) (vSh ⟨false, [.sl (.pair (.int .i64) (.pair .bool (.pair .bool (.pair (.sl (.int .i64)) (.pair (.int .i64) (.pair (.int .i64) (.pair (.int .i64) (.pair (.int .i64) (.pair .str .unit)))))))))], [], 24⟩) y1 v1 []) (w1 : shWf (vSh ⟨false, [.sl (.pair (.int .i64) (.pair .bool (.pair .bool (.pair (.sl (.int .i64)) (.pair (.int .i64) (.pair (.int .i64) (.pair (.int .i64) (.pair (.int .i64) (.pair .str .unit)))))))))], [], 24⟩) y1) (h2 : ShRep w (Here w) (vSh ⟨false, [.sl (.int .i64)], [], 24⟩) y2 v2 []) (w2 : shWf (vSh ⟨false, [.sl (.int .i64)], [], 24⟩) y2) (h3 : ShRep w (Here w) (vSh ⟨false, [.sl .bool], [], 24⟩) y3 v3 []) (w3 : shWf (vSh ⟨false, [.sl .bool], [], 24⟩) y3) :
    Calls Tryz.prog 3 #[v0, v1, v2, v3] w fun e w' => e = .returned (.bool true) ∧ Below w.heap.size w w' := by
  obtain ⟨k, p, h⟩ := P y0 y1 y2 y3 w0 w1 w2 w3
  have h' : callF cx k 3 (y0, y1, y2, y3, ()) = some ((true, ()), p) := h
  have hr : ShsRep w (Here w) (cx.spec 3).ps (y0, y1, y2, y3, ()) [v0, v1, v2, v3] [] := ⟨[], [], rfl, h0, ⟨[], [], rfl, h1, ⟨[], [], rfl, h2, ⟨[], [], rfl, h3, rfl⟩⟩⟩⟩
  exact law_calls (told k 3 _ _ h') hr hGL (fun w' Z vs fp h => res_bool h)
theorem own : ownKnob Tryz.prog.godebug = none := by kernel_rfl
theorem laidOut : laidOutB Tryz.prog = true := by kernel_rfl
/-- what the row lists -/
def laidL : List (String × DataW Unit) := [("math/bits.deBruijn32tab", Rows.laid_math_bits_deBruijn32tab), ("math/bits.deBruijn64tab", Rows.laid_math_bits_deBruijn64tab), ("internal/strconv.uint64pow10", Rows.laid_internal_strconv_uint64pow10)]
theorem pow_data : (Rows.laid_internal_strconv_uint64pow10 : DataW Unit) = Lib.tabData .u64 Lib.pow10Tab := by kernel_rfl
theorem gl_of {W : World} (h : laidMetH Tryz.prog laidL W) : GL cx W (Here W) := by
  unfold laidL at h
  rw [MakeChecks.laidMetH_plain _ _ _ (by kernel_rfl), pow_data] at h
  have ht := Lib.tabIs_of_head (n := 20) (t := 139) (e := 126) gPow (by kernel_rfl) (by kernel_rfl) (by kernel_rfl) (by kernel_rfl) (by kernel_rfl) (laidMet.tail (laidMet.tail h))
  unfold Lib.TabIs World.var? at ht
  rw [gPow, Option.bind_some] at ht
  refine ⟨(fun _ _ h => by cases h), fun g p hg => ?_⟩
  have hg : objsR g = some p := hg
  unfold objsR at hg
  split at hg
  · rename_i e
    subst e
    obtain rfl := Option.some.inj hg
    split at ht
    · rename_i cs t fz hh
      obtain rfl := Option.some.inj ht
      exact ⟨(Array.getElem?_eq_some_iff.1 hh).1, _, _, _, hh, rfl⟩
    · cases ht
  · cases hg
noncomputable def door (os : Os) : World := World.doorLaid Tryz.prog 400 os
theorem door_met (os : Os) (args : Array Value) : laidMetH Tryz.prog laidL ((door os).forCall (fun _ _ => 0) ⟨#[], args, []⟩).memory :=
  laidMetH_of_parts3 (fuel := 8) (laidMet_of_run' 8 (by kernel_rfl) (by kernel_rfl)) (by kernel_rfl) (by kernel_rfl)
set_option maxRecDepth 100000 in
theorem lifted (P : PureFnExactRowOrder) (os : Os) (started : os.Started) (H : Type) (enc : TypeId × Value → H) :
    ReturnsInHanded {} Tryz.checked os 3 .any (fun w args => (Rows.fnExactRowOrderSpec.pre enc Tryz.prog Tryz.f3 [] false w args ∧ laidMetH Tryz.prog laidL w) ∧ sizedMet enc Tryz.prog Tryz.f3 (OpenSpec.ofChange Rows.fnExactRowOrderSpec) false w args)
      (Rows.fnExactRowOrderSpec.post enc Tryz.prog Tryz.f3 false true false false) := by
  refine returnsInHanded_of_change_and (C := Tryz.checked) (X := fun w _ => laidMetH Tryz.prog laidL w) (fun _ _ _ hh h => h.of_heap hh) own started (by kernel_rfl) Tryz.func3
    (ChangeSpec.witness_shaped (enc := enc) (C := Tryz.checked) (os := os) (X := fun w _ => laidMetH Tryz.prog laidL w) false (door os) #[.slice none 0 0, .slice none 0 0, .slice none 0 0, .slice none 0 0] 12 rfl (World.shaped_of_RefB (by kernel_rfl) (by kernel_rfl)) (by kernel_rfl) (by kernel_rfl) (by kernel_rfl) (door_met os _)) ?_
  intro W base args ds gs before hval0 hW _ _ hL _
  have hGL := gl_of hL
  have hval : ∀ (j : Nat) t v, Tryz.f3.params[j]? = some t → args[j]? = some v → Value.okWide Tryz.prog W .any base t v := hval0
  have hW' := hW
  obtain ⟨p, q, hA0, hV, rfl, hfz, hnd⟩ := hW
  have hA : DataW.TrodAll enc Tryz.prog W 0 (fun _ => true) true Tryz.f3.params.toList args.toList ds p := hA0
  rw [Tryz.params3] at hA hval
  obtain ⟨v0, vs0, d0, ds0, p0, q0, hargs, rfl, rfl, h0, r0⟩ := trodAll_cons hA
  obtain ⟨v1, vs1, d1, ds1, p1, q1, rfl, rfl, rfl, h1, r1⟩ := trodAll_cons r0
  obtain ⟨v2, vs2, d2, ds2, p2, q2, rfl, rfl, rfl, h2, r2⟩ := trodAll_cons r1
  obtain ⟨v3, vs3, d3, ds3, p3, q3, rfl, rfl, rfl, h3, r3⟩ := trodAll_cons r2
  obtain ⟨rfl, rfl, rfl⟩ := trodAll_nil r3
  obtain rfl : args = #[v0, v1, v2, v3] := by cases args; simp_all
  obtain ⟨rfl, rfl⟩ := trodVars_none hV
  have k0 := h0
  have lt0 : ∀ x ∈ p0, x.block < W.heap.size := by obtain ⟨m, hm⟩ := k0; exact DataW.trod_lt m _ _ _ hm
  obtain ⟨y0, hy0, w0⟩ := opnArg_ok (tab := tabs.ty) (P := Tryz.prog) (t := 22) (i := ⟨false, [.sl (.pair (.int .i64) (.pair .bool (.pair .bool (.pair (.sl (.int .i64)) (.pair (.int .i64) (.pair (.int .i64) (.pair (.int .i64) (.pair (.int .i64) (.pair .str .unit)))))))))], [], 24⟩) (by kernel_rfl) (hval 0 22 v0 rfl rfl) h0
  have k1 := h1
  have lt1 : ∀ x ∈ p1, x.block < W.heap.size := by obtain ⟨m, hm⟩ := k1; exact DataW.trod_lt m _ _ _ hm
  obtain ⟨y1, hy1, w1⟩ := opnArg_ok (tab := tabs.ty) (P := Tryz.prog) (t := 22) (i := ⟨false, [.sl (.pair (.int .i64) (.pair .bool (.pair .bool (.pair (.sl (.int .i64)) (.pair (.int .i64) (.pair (.int .i64) (.pair (.int .i64) (.pair (.int .i64) (.pair .str .unit)))))))))], [], 24⟩) (by kernel_rfl) (hval 1 22 v1 rfl rfl) h1
  have k2 := h2
  have lt2 : ∀ x ∈ p2, x.block < W.heap.size := by obtain ⟨m, hm⟩ := k2; exact DataW.trod_lt m _ _ _ hm
  obtain ⟨y2, hy2, w2⟩ := opnArg_ok (tab := tabs.ty) (P := Tryz.prog) (t := 23) (i := ⟨false, [.sl (.int .i64)], [], 24⟩) (by kernel_rfl) (hval 2 23 v2 rfl rfl) h2
  have k3 := h3
  have lt3 : ∀ x ∈ p3, x.block < W.heap.size := by obtain ⟨m, hm⟩ := k3; exact DataW.trod_lt m _ _ _ hm
  obtain ⟨y3, hy3, w3⟩ := opnArg_ok (tab := tabs.ty) (P := Tryz.prog) (t := 24) (i := ⟨false, [.sl .bool], [], 24⟩) (by kernel_rfl) (hval 3 24 v3 rfl rfl) h3
  clear hA0 hval0
  refine (walk P W hGL v0 y0 v1 y1 v2 y2 v3 y3 hy0 w0 hy1 w1 hy2 w2 hy3 w3).mono fun e W' ⟨he, bel⟩ => ?_
  subst he
  exact ⟨_, rfl, _, _, _, [], _, [], hW', trodAll_mk1 (shut_bool Tryz.underlying4 _), (trodAll_cons_mk (Below.trod laidOut (by kernel_rfl) (of_decide_eq_true (by kernel_rfl)) k0 bel lt0) (trodAll_cons_mk (Below.trod laidOut (by kernel_rfl) (of_decide_eq_true (by kernel_rfl)) k1 bel lt1) (trodAll_cons_mk (Below.trod laidOut (by kernel_rfl) (of_decide_eq_true (by kernel_rfl)) k2 bel lt2) (trodAll_cons_mk (Below.trod laidOut (by kernel_rfl) (of_decide_eq_true (by kernel_rfl)) k3 bel lt3) trodAll_mk0)))), rfl, bel.frame _, fun h => by cases h⟩
theorem over (P : PureFnExactRowOrder) : Rows.fnExactRowOrderRow.holds Tryz.pinned (OpenSpec.ofChange Rows.fnExactRowOrderSpec) :=
  OpenClaim.holds_of_wide 3 Tryz.f3 rfl rfl rfl rfl rfl rfl rfl ⟨rfl, rfl, rfl, rfl, rfl⟩ rfl rfl rfl rfl rfl (by kernel_rfl) Tryz.func3 (by kernel_rfl)
    (of_decide_eq_true (by kernel_rfl)) (by unfold Func.isWrapper; first | (rw [if_pos (by decide +kernel)]; kernel_rfl) | (rw [if_neg (by decide +kernel)]; exact ⟨rfl, rfl⟩))
    (fun os started H enc _ => lifted P os started H enc)
/-- THE TIED CARD. -/
theorem card (P : PureFnExactRowOrder) : Rows.FnExactRowOrderCardSaid :=
  Claim7.holds_tied_plain_at .later [] [.data, .data, .data] true (true, "4822e9a488635222c449b825bd98ec26baee3db8922bc4c8989689dd82084661") false
    (over P) (fun _ h => by cases h) (by kernel_rfl) (fun _ h => by cases h) fnExactRowOrder_row_tie rfl ⟨rfl, rfl⟩ (by kernel_rfl) rfl
    (fun f fn hf hfn => by
      obtain rfl : f = 3 := Option.some.inj ((show Tryz.prog.funcNamed "loop.example/jetton/laws.FnExactRowOrder" = some 3 by kernel_rfl).symm.trans hf) |>.symm
      obtain rfl : fn = Tryz.f3 := (Option.some.inj (Tryz.func3.symm.trans hfn)).symm
      exact ⟨by kernel_rfl, fun j t ht => by
        rw [Tryz.params3] at ht
        have hm : t ∈ [22, 22, 23, 24] := by simpa using Array.mem_of_getElem? ht
        have hall : ([22, 22, 23, 24].all fun u => !Tryz.prog.wantsStandIn u) = true := by kernel_rfl
        exact (show Tryz.prog.wantsStandIn t = false by simpa using List.all_eq_true.1 hall t hm)⟩)
    (by kernel_rfl)
end Go.Proofs.YthbibdpbfgoghaaGreatDoor.fnExactRowOrder
end

section
/-! Rf, limbs: noughts at the end; which is greater. -/
set_option autoImplicit false
namespace Go.Proofs.YthbibdpbfgoghaaGreatDoor.R
open Go.Rf

theorem trimL : ∀ (n : Nat) (l : List Int), l.length = n → n ≤ 1000000 → InR l → Ev (fun k => F110c1 k l) ((digs (VI l).toNat, ()), ((), ())) := by
  intro n
  induction n with
  | zero =>
    intro l hl _ _
    obtain rfl := List.eq_nil_of_length_eq_zero hl
    refine Ev.step 1 (fun k => F110c1_eq k _) ?_
    simp only [List.length_nil, Int.ofNat_zero, gt_iff_lt, Int.lt_irrefl, decide_false, Bool.false_eq_true, if_false, VI, Int.toNat_zero, digs_zero]
    exact Ev.now _
  | succ n ih =>
    intro l hl hn hr
    have hlt : n < l.length := by omega
    refine Ev.step 1 (fun k => F110c1_eq k _) ?_
    simp only [gt_true (show 0 < l.length by omega), pred_len hl (by omega), ge0, if_true, Int.toNat_natCast, getI_of hlt, Option.bind_some, le_true (show n ≤ l.length by omega), Bool.and_self, slices0]
    cases h0 : (l.getD n 0 == 0) with
    | true =>
      have h0 : l.getD n 0 = 0 := by simpa using h0
      have hv : VI (l.take n) = VI l := VI_take_zero (fun i h1 h2 => by
        have : i = n := by omega
        rw [this, h0])
      have := ih (l.take n) (by rw [List.length_take]; omega) (by omega) (hr.take n)
      rw [hv] at this
      simpa only [if_true] using this
    | false =>
      have h0 : l.getD n 0 ≠ 0 := by simpa using h0
      rw [digs_VI hr (.inr (by rw [hl]; exact h0))]
      simp only [Bool.false_eq_true, if_false]
      exact Ev.now _
theorem trim_ev {l : List Int} (hr : InR l) (hl : l.length ≤ 1000000) : Ev (fun k => F110 k l) ((digs (VI l).toNat, ()), ((), ())) := Ev.step 2 (fun k => F110_eq k l) (trimL l.length l rfl hl hr)
theorem l1Trim_ev {l : List Int} (hr : InR l) (hl : l.length ≤ 1000000) : Ev (fun k => F103 k l) ((digs (VI l).toNat, ()), ((), ())) := by
  have key : ∀ n, n ≤ l.length → (∀ i, n ≤ i → i < l.length → l.getD i 0 = 0) → Ev (fun k => F103c2 k l (n : Int)) ((digs (VI l).toNat, ()), ((), ())) := by
    intro n
    induction n with
    | zero =>
      intro _ h0
      have hs := trim_upto (Nat.zero_le _) h0 (.inl rfl) hr
      refine Ev.step 1 (fun k => F103c2_eq k _ _) ?_
      have hc : decide (([] : List Int).length + (digs (VI l).toNat).length ≤ 17592186044416) = true := by rw [← hs]; simp
      have h1 : decide (((0 : Nat) : Int) > 0) = false := by decide
      simp only [h1, ge0, le_true (Nat.zero_le l.length), Bool.and_self, Bool.false_eq_true, if_false, if_true, Int.toNat_natCast, slices0, hc, List.nil_append, hs]
      exact Ev.now _
    | succ n ih =>
      intro hn h0
      have hlt : n < l.length := by omega
      have h1 : decide (((n + 1 : Nat) : Int) > 0) = true := decide_eq_true (by omega)
      have h2 : IntKind.i64.wrap (((n + 1 : Nat) : Int) - 1) = (n : Int) := by rw [wrap64 (by omega) (by omega)]; omega
      refine Ev.step 1 (fun k => F103c2_eq k _ _) ?_
      simp only [h1, h2, ge0, if_true, Int.toNat_natCast, getI_of hlt, Option.bind_some]
      cases hz : (l.getD n 0 == 0) with
      | true =>
        simp only [if_true]
        refine ih (by omega) fun i h3 h4 => ?_
        rcases Nat.eq_or_lt_of_le h3 with rfl | h5
        · simpa using hz
        · exact h0 i h5 h4
      | false =>
        have hz : l.getD n 0 ≠ 0 := by simpa using hz
        have hs := trim_upto hn h0 (.inr (by simpa using hz)) hr
        have hc : decide (([] : List Int).length + (digs (VI l).toNat).length ≤ 17592186044416) = true := by rw [← hs]; simp; omega
        simp only [Bool.false_eq_true, if_false, le_true hn, Bool.and_self, if_true, slices0, hc, List.nil_append, hs]
        exact Ev.now _
  exact Ev.step 2 (fun k => F103_eq k l) (key l.length (Nat.le_refl _) (fun i h1 h2 => by omega))
theorem digs_len_le {n : Nat} {m : Nat} (h : n < 10000 ^ m) : (digs n).length ≤ m := by
  induction m generalizing n with
  | zero =>
    have : n = 0 := by simp at h; omega
    rw [this, digs_zero]
    simp
  | succ m ih =>
    by_cases h0 : n = 0
    · rw [h0, digs_zero]
      simp
    · rw [digs_pos h0, List.length_cons]
      have := ih (n := n / 10000) (by rw [Nat.pow_succ] at h; omega)
      omega
section
variable {a b : List Int} {A B : Nat}
theorem l1CmpAbs_ev (ha : InR a) (hb : InR b) (ta : Trim a) (tb : Trim b) (hA : VI a = (A : Int)) (hB : VI b = (B : Int)) (la : a.length ≤ 1000000) : Ev (fun k => F87 k a b) ((cmpI A B, ()), ((), (), ())) := by
  refine Ev.step 2 (fun k => F87_eq k a b) ?_
  by_cases hl : a.length = b.length
  · have h0 : ((a.length : Int) != (b.length : Int)) = false := by simp [hl]
    simp only [h0, Bool.false_eq_true, if_false]
    have key : ∀ m, m ≤ a.length → (∀ j, m ≤ j → j < a.length → a.getD j 0 = b.getD j 0) → Ev (fun k => F87c6 k a b ((m : Int) - 1)) ((cmpI A B, ()), ((), (), ())) := by
      intro m
      induction m with
      | zero =>
        intro _ h
        have := ext_getD hl (fun j hj => h j (by omega) hj)
        have hAB : A = B := by rw [this, hB] at hA; omega
        rw [hAB, cmpI_eq]
        exact Ev.step 1 (fun k => F87c6_eq k _ _ _) (Ev.now _)
      | succ m ih =>
        intro hm h
        have e : ((m + 1 : Nat) : Int) - 1 = (m : Int) := by omega
        have hma : m < a.length := by omega
        have hmb : m < b.length := by omega
        have hge : decide ((m : Int) ≥ 0) = true := by simp
        have r1 := ha.at hma
        have r2 := hb.at hmb
        rw [e]
        refine Ev.step 1 (fun k => F87c6_eq k _ _ _) ?_
        simp only [hge, if_true, Int.toNat_natCast, getI_of hma, getI_of hmb, Option.bind_some]
        rcases Int.lt_trichotomy (a.getD m 0) (b.getD m 0) with hlt | heq | hgt
        · have := VI_first_lt hl hma (fun j h1 h2 => h j h1 h2) hlt ha hb
          rw [cmpI_lt (by omega)]
          simp only [hlt, decide_true, if_true]
          exact Ev.now _
        · have n1 : ¬ a.getD m 0 < b.getD m 0 := by omega
          have n2 : ¬ a.getD m 0 > b.getD m 0 := by omega
          simp only [n1, n2, decide_false, Bool.false_eq_true, if_false]
          rw [wrap64 (by omega) (by omega)]
          refine ih (by omega) fun j h1 h2 => ?_
          rcases Nat.eq_or_lt_of_le h1 with rfl | h3
          · exact heq
          · exact h j h3 h2
        · have := VI_first_lt hl.symm hmb (fun j h1 h2 => (h j h1 (by omega)).symm) hgt hb ha
          rw [cmpI_gt (by omega)]
          have n1 : ¬ a.getD m 0 < b.getD m 0 := by omega
          have n2 : a.getD m 0 > b.getD m 0 := by omega
          simp only [n1, n2, decide_false, decide_true, Bool.false_eq_true, if_false, if_true]
          exact Ev.now _
    rw [wrap64 (by omega) (by omega)]
    exact key a.length (Nat.le_refl _) (fun j h1 h2 => by omega)
  · have h0 : ((a.length : Int) != (b.length : Int)) = true := by simp; omega
    simp only [h0, if_true]
    rcases Nat.lt_or_ge a.length b.length with h1 | h1
    · have := VI_len_lt ha hb tb h1
      rw [cmpI_lt (by omega)]
      simp only [lt_true h1, if_true]
      exact Ev.now _
    · have := VI_len_lt hb ha ta (by omega)
      rw [cmpI_gt (by omega)]
      simp only [lt_false h1, Bool.false_eq_true, if_false]
      exact Ev.now _
theorem clamp_neg {D : Int} (h : D < 0) : (if (if D < 1 then D else 1) > -1 then (if D < 1 then D else 1) else -1) = -1 := by
  rw [if_pos (show D < 1 by omega), if_neg (by omega)]
theorem clamp_pos {D : Int} (h : 0 < D) : (if (if D < 1 then D else 1) > -1 then (if D < 1 then D else 1) else -1) = 1 := by
  rw [if_neg (show ¬ D < 1 by omega), if_pos (by omega)]
theorem cmp_ev (ha : InR a) (hb : InR b) (ta : Trim a) (tb : Trim b) (hA : VI a = (A : Int)) (hB : VI b = (B : Int)) (la : a.length ≤ 1000000) (lb : b.length ≤ 1000000) : Ev (fun k => F99 k a b) ((cmpI A B, ()), ((), (), ())) := by
  refine Ev.step 2 (fun k => F99_eq k a b) ?_
  by_cases hl : a.length = b.length
  · have h0 : ((a.length : Int) != (b.length : Int)) = false := by simp [hl]
    simp only [h0, Bool.false_eq_true, if_false]
    have key : ∀ m, m ≤ a.length → (∀ j, m ≤ j → j < a.length → a.getD j 0 = b.getD j 0) → Ev (fun k => F99c4 k a b ((m : Int) - 1)) ((cmpI A B, ()), ((), (), ())) := by
      intro m
      induction m with
      | zero =>
        intro _ h
        have := ext_getD hl (fun j hj => h j (by omega) hj)
        have hAB : A = B := by rw [this, hB] at hA; omega
        rw [hAB, cmpI_eq]
        exact Ev.step 1 (fun k => F99c4_eq k _ _ _) (Ev.now _)
      | succ m ih =>
        intro hm h
        have e : ((m + 1 : Nat) : Int) - 1 = (m : Int) := by omega
        have hma : m < a.length := by omega
        have hmb : m < b.length := by omega
        have hge : decide ((m : Int) ≥ 0) = true := by simp
        have r1 := ha.at hma
        have r2 := hb.at hmb
        rw [e]
        refine Ev.step 1 (fun k => F99c4_eq k _ _ _) ?_
        simp only [hge, if_true, Int.toNat_natCast, getI_of hma, getI_of hmb, Option.bind_some]
        rcases Int.lt_trichotomy (a.getD m 0) (b.getD m 0) with hlt | heq | hgt
        · have := VI_first_lt hl hma (fun j h1 h2 => h j h1 h2) hlt ha hb
          have hne : (a.getD m 0 != b.getD m 0) = true := bne_iff_ne.2 (by omega)
          rw [cmpI_lt (by omega), wrap64 (n := a.getD m 0 - b.getD m 0) (by omega) (by omega)]
          simp only [hne, if_true, clamp_neg (show a.getD m 0 - b.getD m 0 < 0 by omega)]
          exact Ev.now _
        · have hne : (a.getD m 0 != b.getD m 0) = false := by rw [heq, bne_self_eq_false]
          simp only [hne, Bool.false_eq_true, if_false]
          rw [wrap64 (by omega) (by omega)]
          refine ih (by omega) fun j h1 h2 => ?_
          rcases Nat.eq_or_lt_of_le h1 with rfl | h3
          · exact heq
          · exact h j h3 h2
        · have := VI_first_lt hl.symm hmb (fun j h1 h2 => (h j h1 (by omega)).symm) hgt hb ha
          have hne : (a.getD m 0 != b.getD m 0) = true := bne_iff_ne.2 (by omega)
          rw [cmpI_gt (by omega), wrap64 (n := a.getD m 0 - b.getD m 0) (by omega) (by omega)]
          simp only [hne, if_true, clamp_pos (show 0 < a.getD m 0 - b.getD m 0 by omega)]
          exact Ev.now _
    rw [wrap64 (by omega) (by omega)]
    exact key a.length (Nat.le_refl _) (fun j h1 h2 => by omega)
  · have h0 : ((a.length : Int) != (b.length : Int)) = true := by simp; omega
    simp only [h0, if_true]
    rw [wrap64 (n := (a.length : Int) - b.length) (by omega) (by omega)]
    rcases Nat.lt_or_ge a.length b.length with h1 | h1
    · have := VI_len_lt ha hb tb h1
      rw [cmpI_lt (by omega), clamp_neg (by omega)]
      exact Ev.now _
    · have := VI_len_lt hb ha ta (by omega)
      rw [cmpI_gt (by omega), clamp_pos (by omega)]
      exact Ev.now _
end
end Go.Proofs.YthbibdpbfgoghaaGreatDoor.R
end

section
/-! Rf, limbs: sums and differences. -/
set_option autoImplicit false
namespace Go.Proofs.YthbibdpbfgoghaaGreatDoor.R
open Go.Rf
section
variable {a b : List Int} {A B : Nat}
/-- the carry runs up -/
theorem addC {M : Nat} (hM : M ≤ 200001) {S : Int} : ∀ (m i : Nat) (x : List Int), i + m = M → x.length = M + 1 → VI x = S → (∀ j, j < i → 0 ≤ x.getD j 0 ∧ x.getD j 0 ≤ 9999) → (∀ j, i < j → j < M → 0 ≤ x.getD j 0 ∧ x.getD j 0 ≤ 19998) →
    (0 ≤ x.getD i 0 ∧ x.getD i 0 ≤ 19999) → (i < M → x.getD M 0 = 0) → (i = M → x.getD M 0 ≤ 1) → Ev (fun k => F98c9 k x (M : Int) (i : Int)) ((digs S.toNat, ()), ((), (), ())) := by
  intro m
  induction m with
  | zero =>
    intro i x hi hx hS h1 h2 h3 h4 h5
    have hiM : i = M := by omega
    subst hiM
    refine Ev.step 1 (fun k => F98c9_eq k _ _ _) ?_
    simp only [lt_false (Nat.le_refl i), Bool.false_eq_true, if_false]
    have hr : InR x := InR.of fun j hj => by
      rcases Nat.eq_or_lt_of_le (show j ≤ i by omega) with rfl | h6
      · have := h5 rfl
        omega
      · exact h1 j h6
    have := trim_ev hr (by omega)
    rw [hS] at this
    exact Ev.bind this (Ev.now _)
  | succ m ih =>
    intro i x hi hx hS h1 h2 h3 h4 _
    have hiM : i < M := by omega
    have l0 : i < x.length := by omega
    have l1 : i + 1 < x.length := by omega
    have r1 : 0 ≤ x.getD (i + 1) 0 ∧ x.getD (i + 1) 0 ≤ 19998 := by
      rcases Nat.eq_or_lt_of_le (show i + 1 ≤ M by omega) with h6 | h6
      · rw [h6, h4 hiM]
        omega
      · exact h2 (i + 1) (by omega) h6
    have hq : 0 ≤ x.getD i 0 / 10000 ∧ x.getD i 0 / 10000 ≤ 1 := by omega
    have hset : i < (x.set (i + 1) (x.getD (i + 1) 0 + x.getD i 0 / 10000)).length := by rw [List.length_set]; omega
    have hget : (x.set (i + 1) (x.getD (i + 1) 0 + x.getD i 0 / 10000)).getD i 0 = x.getD i 0 := by rw [getI_set l1, if_neg (by omega)]
    have hS' : VI ((x.set (i + 1) (x.getD (i + 1) 0 + x.getD i 0 / 10000)).set i (x.getD i 0 % 10000)) = S := by
      rw [VI_carry l1 rfl (by omega), hS]
    have hgets : ∀ j, ((x.set (i + 1) (x.getD (i + 1) 0 + x.getD i 0 / 10000)).set i (x.getD i 0 % 10000)).getD j 0 = if j = i then x.getD i 0 % 10000 else if j = i + 1 then x.getD (i + 1) 0 + x.getD i 0 / 10000 else x.getD j 0 := fun j => getI_set2 l1
    refine Ev.step 1 (fun k => F98c9_eq k _ _ _) ?_
    have w1 : IntKind.i64.wrap (x.getD i 0 / 10000) = x.getD i 0 / 10000 := wrap64 (by omega) (by omega)
    have w2 : IntKind.i64.wrap (x.getD (i + 1) 0 + x.getD i 0 / 10000) = x.getD (i + 1) 0 + x.getD i 0 / 10000 := wrap64 (by omega) (by omega)
    simp only [lt_true hiM, wrap_succ (show i < 9223372036854775807 by omega), ge0, lt_true l1, lt_true l0, Bool.and_self, if_true, Int.toNat_natCast, getI_of l1, getI_of l0, Option.bind_some, tdiv_pos h3.1, w1, w2, lt_true hset, getI_of hset, hget, tmod_pos h3.1]
    refine ih (i + 1) _ (by omega) (by simpa using hx) hS' (fun j hj => ?_) (fun j hj hj2 => ?_) ?_ (fun hj => ?_) (fun hj => ?_)
    · rw [hgets]
      split
      · omega
      · rw [if_neg (by omega)]
        exact h1 j (by omega)
    · rw [hgets, if_neg (by omega), if_neg (by omega)]
      exact h2 j (by omega) hj2
    · rw [hgets, if_neg (by omega), if_pos rfl]
      omega
    · rw [hgets, if_neg (by omega), if_neg (by omega)]
      exact h4 hiM
    · rw [hgets, if_neg (by omega), if_pos hj.symm]
      have : x.getD (i + 1) 0 = 0 := by rw [hj]; exact h4 hiM
      omega
theorem add_ev (ha : InR a) (hb : InR b) (la : a.length ≤ 100000) (lb : b.length ≤ 100000) : Ev (fun k => F98 k a b) ((digs (VI a + VI b).toNat, ()), ((), (), ())) := by
  obtain ⟨M, hM⟩ : ∃ M, M = max a.length b.length := ⟨_, rfl⟩
  have h1 : (if (b.length : Int) > (a.length : Int) then (b.length : Int) else (a.length : Int)) = (M : Int) := by
    split <;> omega
  have h2 : IntKind.i64.wrap ((M : Int) + 1) = ((M + 1 : Nat) : Int) := wrap_succ (by omega)
  have hc : decide (((M + 1 : Nat) : Int) ≤ (17592186044416 : Int)) = true := decide_eq_true (by omega)
  have hinit : a.take (List.replicate (M + 1) (0 : Int)).length ++ (List.replicate (M + 1) (0 : Int)).drop a.length = a ++ List.replicate (M + 1 - a.length) 0 := by
    rw [List.length_replicate, List.take_of_length_le (by omega), List.drop_replicate]
  refine Ev.step 2 (fun k => F98_eq k a b) ?_
  simp only [h1, h2, ge0, le_true (Nat.le_refl (M + 1)), hc, Bool.and_self, if_true, Int.toNat_natCast, hinit]
  have key : ∀ (m i : Nat) (x : List Int), i + m = b.length → x.length = M + 1 → VI x = VI a + VI (b.take i) → (∀ j, j < i → 0 ≤ x.getD j 0 ∧ x.getD j 0 ≤ 19998) → (∀ j, i ≤ j → j < M → 0 ≤ x.getD j 0 ∧ x.getD j 0 ≤ 9999) → x.getD M 0 = 0 →
      Ev (fun k => F98c4 k x b (b.length : Int) (i : Int)) ((digs (VI a + VI b).toNat, ()), ((), (), ())) := by
    intro m
    induction m with
    | zero =>
      intro i x hi hx hV g1 g2 g3
      have hib : i = b.length := by omega
      subst hib
      refine Ev.step 1 (fun k => F98c4_eq k _ _ _ _) ?_
      have hl : IntKind.i64.wrap ((x.length : Int) - 1) = (M : Int) := pred_len hx (by omega)
      simp only [lt_false (Nat.le_refl b.length), Bool.false_eq_true, if_false, hl]
      rw [VI_take_all] at hV
      have hall : ∀ j, j < M → 0 ≤ x.getD j 0 ∧ x.getD j 0 ≤ 19998 := fun j hj => by
        rcases Nat.lt_or_ge j b.length with h | h
        · exact g1 j h
        · have := g2 j h hj
          omega
      refine addC (by omega) M 0 x (by omega) hx hV (fun j hj => by omega) (fun j _ hj => hall j hj) ?_ (fun _ => g3) (fun _ => by omega)
      rcases Nat.eq_zero_or_pos M with h | h
      · rw [h] at g3
        omega
      · have := hall 0 h
        omega
    | succ m ih =>
      intro i x hi hx hV g1 g2 g3
      have hib : i < b.length := by omega
      have l0 : i < x.length := by omega
      have rb := hb.at hib
      have rx := g2 i (Nat.le_refl _) (by omega)
      have w1 : IntKind.i64.wrap (x.getD i 0 + b.getD i 0) = x.getD i 0 + b.getD i 0 := wrap64 (by omega) (by omega)
      refine Ev.step 1 (fun k => F98c4_eq k _ _ _ _) ?_
      simp only [lt_true hib, lt_true l0, ge0, Bool.and_self, if_true, Int.toNat_natCast, getI_of hib, getI_of l0, Option.bind_some, w1, wrap_succ (show i < 9223372036854775807 by omega)]
      refine ih (i + 1) _ (by omega) (by simpa using hx) ?_ (fun j hj => ?_) (fun j hj hj2 => ?_) ?_
      · rw [VI_set l0, VI_take_succ hib, hV]
        grind
      · rw [getI_set l0]
        split
        · omega
        · exact g1 j (by omega)
      · rw [getI_set l0, if_neg (by omega)]
        exact g2 j (by omega) hj2
      · rw [getI_set l0, if_neg (by omega)]
        exact g3
  have hpad : ∀ j, (a ++ List.replicate (M + 1 - a.length) (0 : Int)).getD j 0 = a.getD j 0 := fun j => by
    rw [List.getD_eq_getElem?_getD, List.getD_eq_getElem?_getD]
    rcases Nat.lt_or_ge j a.length with h | h
    · rw [List.getElem?_append_left h]
    · rw [List.getElem?_append_right h, List.getElem?_eq_none h, List.getElem?_replicate]
      split <;> rfl
  have := key b.length 0 (a ++ List.replicate (M + 1 - a.length) 0) (by omega) (by simp; omega) (by rw [VI_pad]; simp [VI]) (fun j hj => by omega) (fun j _ hj => by
    rw [hpad]
    rcases Nat.lt_or_ge j a.length with h | h
    · exact ha.at h
    · rw [List.getD_eq_getElem?_getD, List.getElem?_eq_none h]
      exact ⟨Int.le_refl _, by decide⟩) (by rw [hpad, List.getD_eq_getElem?_getD, List.getElem?_eq_none (by omega)]; rfl)
  exact this
theorem clone_ev (l : List Int) (h : l.length ≤ 1000000) : Ev (fun k => F111 k l) ((l, ()), ((), ())) := by
  refine Ev.step 2 (fun k => F111_eq k l) ?_
  have hc : decide (([] : List Int).length + l.length ≤ 17592186044416) = true := decide_eq_true (by simp; omega)
  simp only [hc, if_true, List.nil_append]
  cases l with
  | nil =>
    rw [bothK_same]
    exact Ev.now _
  | cons x l =>
    have : emptyL (x :: l) = false := rfl
    rw [this, bothK_false]
    exact Ev.now _
theorem VI_last {l : List Int} {n : Nat} (h : l.length = n + 1) : VI l = VI (l.take n) + l.getD n 0 * 10000 ^ n := by
  rw [← VI_take_succ (by omega), ← h, List.take_length]
/-- the borrow runs up -/
theorem subC {M : Nat} (hM : M ≤ 200001) {S : Int} (hS0 : 0 ≤ S) : ∀ (m i : Nat) (x : List Int), i + m = M → x.length = M → VI x = S → (∀ j, j < i → 0 ≤ x.getD j 0 ∧ x.getD j 0 ≤ 9999) → (∀ j, i < j → j < M → -9999 ≤ x.getD j 0 ∧ x.getD j 0 ≤ 9999) →
    (i < M → -10000 ≤ x.getD i 0 ∧ x.getD i 0 ≤ 9999) → Ev (fun k => F100c8 k x (M : Int) (i : Int)) ((digs S.toNat, ()), ((), (), ())) := by
  intro m
  induction m with
  | zero =>
    intro i x hi hx hS h1 _ _
    have hiM : i = M := by omega
    subst hiM
    refine Ev.step 1 (fun k => F100c8_eq k _ _ _) ?_
    simp only [lt_false (Nat.le_refl i), Bool.false_eq_true, if_false]
    have hr : InR x := InR.of fun j hj => h1 j (by omega)
    have := trim_ev hr (by omega)
    rw [hS] at this
    exact Ev.bind this (Ev.now _)
  | succ m ih =>
    intro i x hi hx hS h1 h2 h3
    have hiM : i < M := by omega
    have l0 : i < x.length := by omega
    have r0 := h3 hiM
    refine Ev.step 1 (fun k => F100c8_eq k _ _ _) ?_
    simp only [lt_true hiM, lt_true l0, ge0, Bool.and_self, if_true, Int.toNat_natCast, getI_of l0, Option.bind_some]
    by_cases hneg : x.getD i 0 < 0
    · have l1 : i + 1 < x.length := by
        rcases Nat.lt_or_ge (i + 1) x.length with h | h
        · exact h
        · exfalso
          have hx1 : x.length = i + 1 := by omega
          have hr : InR (x.take i) := InR.of fun j hj => by
            have hj' : j < i := by rw [List.length_take] at hj; omega
            have := h1 j hj'
            rw [List.getD_eq_getElem?_getD, List.getElem?_take_of_lt hj', ← List.getD_eq_getElem?_getD]
            exact this
          have h4 := VI_lt hr
          rw [List.length_take, Nat.min_eq_left (by omega)] at h4
          have h5 := VI_last hx1
          rw [hS] at h5
          have h6 : x.getD i 0 * 10000 ^ i ≤ -1 * 10000 ^ i := Int.mul_le_mul_of_nonneg_right (by omega) (Int.le_of_lt (pow_pos i))
          omega
      have hset : i + 1 < (x.set i (x.getD i 0 + 10000)).length := by rw [List.length_set]; exact l1
      have w1 : IntKind.i64.wrap (x.getD i 0 + 10000) = x.getD i 0 + 10000 := wrap64 (by omega) (by omega)
      have r1 := h2 (i + 1) (by omega) (by omega)
      have hget : (x.set i (x.getD i 0 + 10000)).getD (i + 1) 0 = x.getD (i + 1) 0 := by rw [getI_set l0, if_neg (by omega)]
      have w2 : IntKind.i64.wrap (x.getD (i + 1) 0 - 1) = x.getD (i + 1) 0 - 1 := wrap64 (by omega) (by omega)
      simp only [hneg, decide_true, if_true, wrap_succ (show i < 9223372036854775807 by omega), ge0, w1, lt_true hset, Bool.and_self, Int.toNat_natCast, getI_of hset, Option.bind_some, hget, w2]
      refine Ev.step 1 (fun k => F100c13_eq k _ _ _) ?_
      rw [wrap_succ (by omega)]
      have hgets : ∀ j, ((x.set i (x.getD i 0 + 10000)).set (i + 1) (x.getD (i + 1) 0 - 1)).getD j 0 = if j = i + 1 then x.getD (i + 1) 0 - 1 else if j = i then x.getD i 0 + 10000 else x.getD j 0 := fun j => by
        rw [getI_set hset, getI_set l0]
      refine ih (i + 1) _ (by omega) (by simpa using hx) ?_ (fun j hj => ?_) (fun j hj hj2 => ?_) (fun hj => ?_)
      · rw [VI_set hset, VI_set l0, hget, hS, Int.pow_succ]
        grind
      · rw [hgets, if_neg (by omega)]
        split
        · omega
        · exact h1 j (by omega)
      · rw [hgets, if_neg (by omega), if_neg (by omega)]
        exact h2 j (by omega) hj2
      · rw [hgets, if_pos rfl]
        omega
    · simp only [hneg, decide_false, Bool.false_eq_true, if_false]
      refine Ev.step 1 (fun k => F100c13_eq k _ _ _) ?_
      rw [wrap_succ (by omega)]
      refine ih (i + 1) _ (by omega) hx hS (fun j hj => ?_) (fun j hj hj2 => h2 j (by omega) hj2) (fun hj => ?_)
      · rcases Nat.eq_or_lt_of_le (Nat.le_of_lt_succ hj) with rfl | h
        · omega
        · exact h1 j h
      · have := h2 (i + 1) (by omega) hj
        omega
theorem sub_ev (ha : InR a) (hb : InR b) (tb : Trim b) (la : a.length ≤ 100000) (hle : VI b ≤ VI a) : Ev (fun k => F100 k a b) ((digs (VI a - VI b).toNat, ()), ((), (), ())) := by
  have hlen : b.length ≤ a.length := by
    rcases Nat.lt_or_ge a.length b.length with h | h
    · have := VI_len_lt ha hb tb h
      omega
    · exact h
  refine Ev.step 2 (fun k => F100_eq k a b) (Ev.bind (clone_ev a (by omega)) ?_)
  have key : ∀ (m i : Nat) (x : List Int), i + m = b.length → x.length = a.length → VI x = VI a - VI (b.take i) → (∀ j, j < i → -9999 ≤ x.getD j 0 ∧ x.getD j 0 ≤ 9999) → (∀ j, i ≤ j → j < a.length → 0 ≤ x.getD j 0 ∧ x.getD j 0 ≤ 9999) →
      Ev (fun k => F100c3 k x b (b.length : Int) (i : Int)) ((digs (VI a - VI b).toNat, ()), ((), (), ())) := by
    intro m
    induction m with
    | zero =>
      intro i x hi hx hV g1 g2
      have hib : i = b.length := by omega
      subst hib
      refine Ev.step 1 (fun k => F100c3_eq k _ _ _ _) ?_
      simp only [lt_false (Nat.le_refl b.length), Bool.false_eq_true, if_false]
      rw [VI_take_all] at hV
      have hall : ∀ j, j < x.length → -9999 ≤ x.getD j 0 ∧ x.getD j 0 ≤ 9999 := fun j hj => by
        rcases Nat.lt_or_ge j b.length with h | h
        · exact g1 j h
        · have := g2 j h (by omega)
          omega
      exact subC (by omega) (by omega) x.length 0 x (by omega) rfl hV (fun j hj => by omega) (fun j _ hj => hall j hj) (fun hj => by have := hall 0 hj; omega)
    | succ m ih =>
      intro i x hi hx hV g1 g2
      have hib : i < b.length := by omega
      have l0 : i < x.length := by omega
      have rb := hb.at hib
      have rx := g2 i (Nat.le_refl _) (by omega)
      have w1 : IntKind.i64.wrap (x.getD i 0 - b.getD i 0) = x.getD i 0 - b.getD i 0 := wrap64 (by omega) (by omega)
      refine Ev.step 1 (fun k => F100c3_eq k _ _ _ _) ?_
      simp only [lt_true hib, lt_true l0, ge0, Bool.and_self, if_true, Int.toNat_natCast, getI_of hib, getI_of l0, Option.bind_some, w1, wrap_succ (show i < 9223372036854775807 by omega)]
      refine ih (i + 1) _ (by omega) (by simpa using hx) ?_ (fun j hj => ?_) (fun j hj hj2 => ?_)
      · rw [VI_set l0, VI_take_succ hib, hV]
        grind
      · rw [getI_set l0]
        split
        · omega
        · exact g1 j (by omega)
      · rw [getI_set l0, if_neg (by omega)]
        exact g2 j (by omega) hj2
  exact key b.length 0 a (by omega) rfl (by simp [VI]) (fun j hj => by omega) (fun j _ hj => ha.at hj)
end
end Go.Proofs.YthbibdpbfgoghaaGreatDoor.R
end

section
/-! Rf, limbs: products, powers of ten. -/
set_option autoImplicit false
namespace Go.Proofs.YthbibdpbfgoghaaGreatDoor.R
open Go.Rf
theorem mul_small {x y : Int} (hx : 0 ≤ x ∧ x ≤ 9999) (hy : 0 ≤ y ∧ y ≤ 9999) : 0 ≤ x * y ∧ x * y ≤ 99980001 := by
  refine ⟨Int.mul_nonneg hx.1 hy.1, ?_⟩
  have := Int.mul_le_mul hx.2 hy.2 hy.1 (show (0 : Int) ≤ 9999 by omega)
  omega
theorem addN {i k : Nat} (h : i + k < 4611686018427387904) : IntKind.i64.wrap ((i : Int) + (k : Int)) = ((i + k : Nat) : Int) := by
  rw [wrap64 (by omega) (by omega)]
  omega
/-- one limb more of a product's row -/
theorem VI_row {x : List Int} {i k : Nat} {V0 ai c s n : Int} {b : List Int} (hk : k < b.length) (hx : i + k < x.length) (hV : VI x + c * 10000 ^ (i + k) = V0 + ai * VI (b.take k) * 10000 ^ i) (hn : n = x.getD (i + k) 0 + ai * b.getD k 0 + c) (hs : s = n % 10000) :
    VI (x.set (i + k) s) + n / 10000 * 10000 ^ (i + (k + 1)) = V0 + ai * VI (b.take (k + 1)) * 10000 ^ i := by
  have e1 : n = 10000 * (n / 10000) + s := by omega
  have e2 : (10000 : Int) ^ (i + (k + 1)) = 10000 ^ (i + k) * 10000 := by rw [← Nat.add_assoc, Int.pow_succ]
  have e3 : (10000 : Int) ^ (i + k) = 10000 ^ i * 10000 ^ k := Int.pow_add 10000 i k
  rw [VI_set hx, VI_take_succ hk, e2]
  rw [e3] at hV ⊢
  grind
section
variable {a b : List Int}
theorem mulI (ha : InR a) (hb : InR b) (la : a.length ≤ 100000) (lb : b.length ≤ 100000) {i : Nat} (hi : i < a.length) {V0 : Int} {R : (List Int × Unit) × (Unit × Unit × Unit)}
    (hR : ∀ x : List Int, x.length = a.length + b.length + 1 → VI x = V0 + a.getD i 0 * VI b * 10000 ^ i → InR x → (∀ j, i + 1 + b.length ≤ j → x.getD j 0 = 0) → Ev (fun k => F96c3 k b x a (a.length : Int) ((i + 1 : Nat) : Int)) R) :
    ∀ (m n : Nat) (x : List Int) (c : Int), n + m = b.length → x.length = a.length + b.length + 1 → VI x + c * 10000 ^ (i + n) = V0 + a.getD i 0 * VI (b.take n) * 10000 ^ i → InR x → (0 ≤ c ∧ c ≤ 9999) → (∀ j, i + b.length ≤ j → x.getD j 0 = 0) →
    Ev (fun k => F96c7 k b x (i : Int) (a.getD i 0) c a (a.length : Int) (i : Int) b (b.length : Int) (n : Int)) R := by
  intro m
  induction m with
  | zero =>
    intro n x c hn hx hV hr hc h0
    have hnb : n = b.length := by omega
    subst hnb
    have l0 : i + b.length < x.length := by omega
    have hz := h0 (i + b.length) (Nat.le_refl _)
    have w1 : IntKind.i64.wrap (0 + c) = c := by rw [wrap64 (by omega) (by omega)]; omega
    refine Ev.step 1 (fun k => F96c7_eq k _ _ _ _ _ _ _ _ _ _ _) ?_
    simp only [lt_false (Nat.le_refl b.length), Bool.false_eq_true, if_false, addN (show i + b.length < 4611686018427387904 by omega), ge0, lt_true l0, Bool.and_self, if_true, Int.toNat_natCast, getI_of l0, Option.bind_some, hz, w1, wrap_succ (show i < 9223372036854775807 by omega)]
    rw [VI_take_all] at hV
    refine hR _ (by simpa using hx) ?_ (InR.of fun j hj => ?_) (fun j hj => ?_)
    · rw [VI_set l0, hz, ← hV, Int.sub_zero]
    · rw [getI_set l0]
      split
      · omega
      · exact hr.at (by simpa using hj)
    · rw [getI_set l0, if_neg (by omega)]
      exact h0 j (by omega)
  | succ m ih =>
    intro n x c hn hx hV hr hc h0
    have hnb : n < b.length := by omega
    have l0 : i + n < x.length := by omega
    have ra := ha.at hi
    have rb := hb.at hnb
    have rx := hr.at l0
    have rm := mul_small ra rb
    obtain ⟨v, hv⟩ : ∃ v, v = x.getD (i + n) 0 + a.getD i 0 * b.getD n 0 + c := ⟨_, rfl⟩
    have w1 : IntKind.i64.wrap (a.getD i 0 * b.getD n 0) = a.getD i 0 * b.getD n 0 := wrap64 (by omega) (by omega)
    have w2 : IntKind.i64.wrap (x.getD (i + n) 0 + a.getD i 0 * b.getD n 0) = x.getD (i + n) 0 + a.getD i 0 * b.getD n 0 := wrap64 (by omega) (by omega)
    have w3 : IntKind.i64.wrap v = v := wrap64 (by omega) (by omega)
    have hv0 : 0 ≤ v := by omega
    refine Ev.step 1 (fun k => F96c7_eq k _ _ _ _ _ _ _ _ _ _ _) ?_
    simp only [lt_true hnb, addN (show i + n < 4611686018427387904 by omega), ge0, lt_true l0, Bool.and_self, if_true, Int.toNat_natCast, getI_of hnb, getI_of l0, Option.bind_some, w1, w2, ← hv, w3, tdiv_pos hv0, tmod_pos hv0, wrap_succ (show n < 9223372036854775807 by omega)]
    rw [wrap64 (n := v / 10000) (by omega) (by omega)]
    refine ih (n + 1) _ _ (by omega) (by simpa using hx) (VI_row hnb l0 hV hv rfl) (InR.of fun j hj => ?_) (by omega) (fun j hj => ?_)
    · rw [getI_set l0]
      split
      · omega
      · exact hr.at (by simpa using hj)
    · rw [getI_set l0, if_neg (by omega)]
      exact h0 j hj
theorem mul_ev (ha : InR a) (hb : InR b) (la : a.length ≤ 100000) (lb : b.length ≤ 100000) : Ev (fun k => F96 k a b) ((digs (VI a * VI b).toNat, ()), ((), (), ())) := by
  have e1 : IntKind.i64.wrap (((a.length + b.length : Nat) : Int) + 1) = ((a.length + b.length + 1 : Nat) : Int) := wrap_succ (by omega)
  have hc : decide (((a.length + b.length + 1 : Nat) : Int) ≤ (17592186044416 : Int)) = true := decide_eq_true (by omega)
  refine Ev.step 2 (fun k => F96_eq k a b) ?_
  simp only [addN (show a.length + b.length < 4611686018427387904 by omega), e1, ge0, le_true (Nat.le_refl (a.length + b.length + 1)), hc, Bool.and_self, if_true, Int.toNat_natCast]
  have key : ∀ (m i : Nat) (x : List Int), i + m = a.length → x.length = a.length + b.length + 1 → VI x = VI (a.take i) * VI b → InR x → (∀ j, i + b.length ≤ j → x.getD j 0 = 0) → Ev (fun k => F96c3 k b x a (a.length : Int) (i : Int)) ((digs (VI a * VI b).toNat, ()), ((), (), ())) := by
    intro m
    induction m with
    | zero =>
      intro i x hi hx hV hr _
      have hia : i = a.length := by omega
      subst hia
      refine Ev.step 1 (fun k => F96c3_eq k _ _ _ _ _) ?_
      simp only [lt_false (Nat.le_refl a.length), Bool.false_eq_true, if_false]
      have := trim_ev hr (by omega)
      rw [hV, VI_take_all] at this
      exact Ev.bind this (Ev.now _)
    | succ m ih =>
      intro i x hi hx hV hr h0
      have hia : i < a.length := by omega
      refine Ev.step 1 (fun k => F96c3_eq k _ _ _ _ _) ?_
      simp only [lt_true hia, ge0, if_true, Int.toNat_natCast, getI_of hia, Option.bind_some]
      refine mulI ha hb la lb hia (V0 := VI (a.take i) * VI b) (fun y h1 h2 h3 h4 => ih (i + 1) y (by omega) h1 ?_ h3 h4) b.length 0 x 0 (by omega) hx ?_ hr (by omega) h0
      · rw [h2, VI_take_succ hia]
        grind
      · rw [hV]
        simp [VI]
  have hz : ∀ j, (List.replicate (a.length + b.length + 1) (0 : Int)).getD j 0 = 0 := fun j => by
    rw [List.getD_eq_getElem?_getD, List.getElem?_replicate]
    split <;> rfl
  exact key a.length 0 _ (by omega) (by simp) (by rw [VI_zeros]; simp [VI]) (fun d hd => by rw [(List.mem_replicate.1 hd).2]; omega) (fun j _ => hz j)
theorem limb_ev {i : Nat} : Ev (fun k => F102 k b (i : Int)) ((b.getD i 0, ()), ((), (), ())) := by
  refine Ev.step 2 (fun k => F102_eq k b i) ?_
  rcases Nat.lt_or_ge i b.length with h | h
  · simp only [lt_true h, ge0, if_true, Int.toNat_natCast, getI_of h, Option.bind_some]
    exact Ev.now _
  · simp only [lt_false h, Bool.false_eq_true, if_false]
    rw [List.getD_eq_getElem?_getD, List.getElem?_eq_none h]
    exact Ev.now _
theorem l1MulI (ha : InR a) (hb : InR b) (la : a.length ≤ 100000) (lb : b.length ≤ 100000) {i : Nat} (hi : i < a.length) {V0 : Int} {R : (List Int × Unit) × (Unit × Unit × Unit)}
    (hR : ∀ x : List Int, x.length = a.length + b.length → VI x = V0 + a.getD i 0 * VI b * 10000 ^ i → InR x → (∀ j, i + 1 + b.length ≤ j → x.getD j 0 = 0) → Ev (fun k => F85c3 k a b x ((i + 1 : Nat) : Int)) R) :
    ∀ (m n : Nat) (x : List Int) (c : Int), n + m = b.length → x.length = a.length + b.length → VI x + c * 10000 ^ (i + n) = V0 + a.getD i 0 * VI (b.take n) * 10000 ^ i → InR x → (0 ≤ c ∧ c ≤ 9999) → (∀ j, i + b.length ≤ j → x.getD j 0 = 0) →
    Ev (fun k => F85c7 k a b x (i : Int) c (n : Int)) R := by
  intro m
  have ra := ha.at hi
  induction m with
  | zero =>
    intro n x c hn hx hV hr hc h0
    have hnb : n = b.length := by omega
    subst hnb
    have l0 : i + b.length < x.length := by omega
    have hz := h0 (i + b.length) (Nat.le_refl _)
    rw [VI_take_all] at hV
    refine Ev.step 1 (fun k => F85c7_eq k _ _ _ _ _ _) ?_
    simp only [lt_false (Nat.le_refl b.length), Bool.false_eq_true, if_false]
    by_cases hpos : c > 0
    · have hlimb : b.getD b.length 0 = 0 := by rw [List.getD_eq_getElem?_getD, List.getElem?_eq_none (Nat.le_refl _)]; rfl
      simp only [hpos, decide_true, if_true, addN (show i + b.length < 4611686018427387904 by omega), ge0, lt_true l0, Bool.and_self, Int.toNat_natCast, getI_of l0, getI_of hi, Option.bind_some]
      refine Ev.bind limb_ev ?_
      have e0 : IntKind.i64.wrap (a.getD i 0 * 0) = 0 := by rw [Int.mul_zero]; decide
      have e1 : IntKind.i64.wrap ((0 : Int) + 0) = 0 := by decide
      have e2 : IntKind.i64.wrap (0 + c) = c := by rw [wrap64 (by omega) (by omega)]; omega
      have e3 : c / 10000 = 0 := by omega
      have e4 : c % 10000 = c := by omega
      have e5 : IntKind.i64.wrap (0 : Int) = 0 := by decide
      simp only [hlimb, hz, e0, e1, e2, tdiv_pos hc.1, tmod_pos hc.1, e3, e4, e5, wrap_succ (show b.length < 9223372036854775807 by omega)]
      have hgt : decide (((b.length + 1 : Nat) : Int) < (b.length : Int)) = false := lt_false (by omega)
      have h00 : decide ((0 : Int) > 0) = false := by decide
      refine Ev.step 1 (fun k => F85c7_eq k _ _ _ _ _ _) ?_
      simp only [hgt, h00, Bool.false_eq_true, if_false, wrap_succ (show i < 9223372036854775807 by omega)]
      refine hR _ (by simpa using hx) ?_ (InR.of fun j hj => ?_) (fun j hj => ?_)
      · rw [VI_set l0, hz, ← hV, Int.sub_zero]
      · rw [getI_set l0]
        split
        · omega
        · exact hr.at (by simpa using hj)
      · rw [getI_set l0, if_neg (by omega)]
        exact h0 j (by omega)
    · have hc0 : c = 0 := by omega
      subst hc0
      simp only [hpos, decide_false, Bool.false_eq_true, if_false, wrap_succ (show i < 9223372036854775807 by omega)]
      refine hR x hx (by rw [← hV]; omega) hr (fun j hj => h0 j (by omega))
  | succ m ih =>
    intro n x c hn hx hV hr hc h0
    have hnb : n < b.length := by omega
    have l0 : i + n < x.length := by omega
    have rb := hb.at hnb
    have rx := hr.at l0
    have rm := mul_small ra rb
    obtain ⟨v, hv⟩ : ∃ v, v = x.getD (i + n) 0 + a.getD i 0 * b.getD n 0 + c := ⟨_, rfl⟩
    have w1 : IntKind.i64.wrap (a.getD i 0 * b.getD n 0) = a.getD i 0 * b.getD n 0 := wrap64 (by omega) (by omega)
    have w2 : IntKind.i64.wrap (x.getD (i + n) 0 + a.getD i 0 * b.getD n 0) = x.getD (i + n) 0 + a.getD i 0 * b.getD n 0 := wrap64 (by omega) (by omega)
    have w3 : IntKind.i64.wrap v = v := wrap64 (by omega) (by omega)
    have hv0 : 0 ≤ v := by omega
    refine Ev.step 1 (fun k => F85c7_eq k _ _ _ _ _ _) ?_
    simp only [lt_true hnb, addN (show i + n < 4611686018427387904 by omega), ge0, lt_true l0, Bool.and_self, if_true, Int.toNat_natCast, getI_of hi, getI_of l0, Option.bind_some]
    refine Ev.bind limb_ev ?_
    simp only [w1, w2, ← hv, w3, tdiv_pos hv0, tmod_pos hv0, wrap_succ (show n < 9223372036854775807 by omega)]
    rw [wrap64 (n := v / 10000) (by omega) (by omega)]
    refine ih (n + 1) _ _ (by omega) (by simpa using hx) (VI_row hnb l0 hV hv rfl) (InR.of fun j hj => ?_) (by omega) (fun j hj => ?_)
    · rw [getI_set l0]
      split
      · omega
      · exact hr.at (by simpa using hj)
    · rw [getI_set l0, if_neg (by omega)]
      exact h0 j hj
theorem l1MulAbs_ev (ha : InR a) (hb : InR b) (la : a.length ≤ 100000) (lb : b.length ≤ 100000) : Ev (fun k => F85 k a b) ((digs (VI a * VI b).toNat, ()), ((), (), ())) := by
  have hc : decide (((a.length + b.length : Nat) : Int) ≤ (17592186044416 : Int)) = true := decide_eq_true (by omega)
  refine Ev.step 2 (fun k => F85_eq k a b) ?_
  simp only [addN (show a.length + b.length < 4611686018427387904 by omega), ge0, le_true (Nat.le_refl (a.length + b.length)), hc, Bool.and_self, if_true, Int.toNat_natCast]
  have key : ∀ (m i : Nat) (x : List Int), i + m = a.length → x.length = a.length + b.length → VI x = VI (a.take i) * VI b → InR x → (∀ j, i + b.length ≤ j → x.getD j 0 = 0) → Ev (fun k => F85c3 k a b x (i : Int)) ((digs (VI a * VI b).toNat, ()), ((), (), ())) := by
    intro m
    induction m with
    | zero =>
      intro i x hi hx hV hr _
      have hia : i = a.length := by omega
      subst hia
      refine Ev.step 1 (fun k => F85c3_eq k _ _ _ _) ?_
      simp only [lt_false (Nat.le_refl a.length), Bool.false_eq_true, if_false]
      have := l1Trim_ev hr (by omega)
      rw [hV, VI_take_all] at this
      exact Ev.bind this (Ev.now _)
    | succ m ih =>
      intro i x hi hx hV hr h0
      have hia : i < a.length := by omega
      refine Ev.step 1 (fun k => F85c3_eq k _ _ _ _) ?_
      simp only [lt_true hia, if_true]
      refine l1MulI ha hb la lb hia (V0 := VI (a.take i) * VI b) (fun y h1 h2 h3 h4 => ih (i + 1) y (by omega) h1 ?_ h3 h4) b.length 0 x 0 (by omega) hx ?_ hr (by omega) h0
      · rw [h2, VI_take_succ hia]
        grind
      · rw [hV]
        simp [VI]
  have hz : ∀ j, (List.replicate (a.length + b.length) (0 : Int)).getD j 0 = 0 := fun j => by
    rw [List.getD_eq_getElem?_getD, List.getElem?_replicate]
    split <;> rfl
  exact key a.length 0 _ (by omega) (by simp) (by rw [VI_zeros]; simp [VI]) (fun d hd => by rw [(List.mem_replicate.1 hd).2]; omega) (fun j _ => hz j)
end
theorem digs_small {n : Nat} (h : 0 < n) (h2 : n < 10000) : digs n = [(n : Int)] := by
  rw [digs_pos (by omega), Nat.div_eq_of_lt h2, Nat.mod_eq_of_lt h2, digs_zero]
theorem VI_digs (n : Nat) : VI (digs n) = (n : Int) := (digs_spec n).2.2
theorem ten_len (i : Nat) : (digs (10 ^ i)).length ≤ i + 1 := digs_len_le (by
  have h1 : 10 ^ i ≤ 10000 ^ i := Nat.pow_le_pow_left (by omega) i
  have h2 : 0 < 10000 ^ i := Nat.pow_pos (by omega)
  rw [Nat.pow_succ]
  omega)
theorem ten_ev (n : Nat) (hn : n ≤ 1000) : Ev (fun k => F97 k (n : Int)) ((digs (10 ^ n), ()), ((), ())) := by
  have h1 : [(1 : Int)] = digs (10 ^ 0) := by rw [Nat.pow_zero, digs_small (by omega) (by omega)]; rfl
  refine Ev.step 2 (fun k => F97_eq k n) ?_
  have key : ∀ m i, i + m = n → Ev (fun k => F97c3 k (digs (10 ^ i)) (n : Int) (i : Int)) ((digs (10 ^ n), ()), ((), ())) := by
    intro m
    induction m with
    | zero =>
      intro i hi
      have : i = n := by omega
      subst this
      refine Ev.step 1 (fun k => F97c3_eq k _ _ _) ?_
      simp only [lt_false (Nat.le_refl i), Bool.false_eq_true, if_false]
      exact Ev.now _
    | succ m ih =>
      intro i hi
      have hin : i < n := by omega
      have hm := mul_ev (a := digs (10 ^ i)) (b := [10]) (digs_spec _).1 (InR.mk (by omega) InR.nil) (by have := ten_len i; omega) (by simp)
      have e : (VI (digs (10 ^ i)) * VI [10]).toNat = 10 ^ (i + 1) := by
        have : VI [10] = 10 := by decide
        rw [VI_digs, this, Nat.pow_succ]
        omega
      rw [e] at hm
      refine Ev.step 1 (fun k => F97c3_eq k _ _ _) ?_
      simp only [lt_true hin, if_true, wrap_succ (show i < 9223372036854775807 by omega)]
      exact Ev.bind hm (ih (i + 1) (by omega))
  rw [h1]
  exact key n 0 (by omega)
theorem tens_digs (q : Nat) {t : Nat} (h0 : 0 < t) (h1 : t < 10000) : List.replicate q (0 : Int) ++ [(t : Int)] = digs (t * 10000 ^ q) := by
  refine digs_of (fun d hd => ?_) (.inr ?_) ?_
  · rcases List.mem_append.1 hd with hd | hd
    · rw [(List.mem_replicate.1 hd).2]
      omega
    · rw [List.mem_singleton.1 hd]
      omega
  · rw [List.length_append, List.length_replicate, List.getD_eq_getElem?_getD, List.getElem?_append_right (by simp)]
    simp
    omega
  · rw [VI_append, VI_zeros, List.length_replicate]
    show (0 : Int) + 10000 ^ q * ((t : Int) + 10000 * 0) = ((t * 10000 ^ q : Nat) : Int)
    rw [Int.natCast_mul, Int.natCast_pow]
    grind
theorem l1TenAbs_ev (n : Nat) (hn : n ≤ 1000) : Ev (fun k => F86 k (n : Int)) ((digs (10 ^ n), ()), ((), ())) := by
  have top : ∀ (m : Nat) (x : List Int) (t : Nat), x.length ≤ 1000 → t * 10 ^ m ≤ 1000000 → 0 < t → Ev (fun k => F86c6 k (m : Int) x (t : Int)) ((x ++ [((t * 10 ^ m : Nat) : Int)], ()), ((), ())) := by
    intro m
    induction m with
    | zero =>
      intro x t hx _ _
      have hc : decide (x.length + [(t : Int)].length ≤ 17592186044416) = true := decide_eq_true (by simp; omega)
      have h0 : decide (((0 : Nat) : Int) > 0) = false := by decide
      refine Ev.step 1 (fun k => F86c6_eq k _ _ _) ?_
      simp only [h0, Bool.false_eq_true, if_false, hc, if_true]
      rw [Nat.pow_zero, Nat.mul_one]
      exact Ev.now _
    | succ m ih =>
      intro x t hx ht h0
      have hp : 0 < 10 ^ m := Nat.pow_pos (by omega)
      have e : t * 10 ^ (m + 1) = t * 10 * 10 ^ m := by rw [Nat.pow_succ]; grind
      have ht10 : t * 10 ≤ t * 10 * 10 ^ m := Nat.le_mul_of_pos_right _ hp
      have hm : m ≤ 1000000 := by
        have h1 : m < 10 ^ m := Nat.lt_pow_self (by omega)
        have h2 : 10 ^ m ≤ t * 10 * 10 ^ m := Nat.le_mul_of_pos_left _ (by omega)
        omega
      have w1 : IntKind.i64.wrap (((m + 1 : Nat) : Int) - 1) = (m : Int) := by rw [wrap64 (by omega) (by omega)]; omega
      have w2 : IntKind.i64.wrap ((t : Int) * 10) = ((t * 10 : Nat) : Int) := by rw [wrap64 (by omega) (by omega)]; omega
      have hg : decide (((m + 1 : Nat) : Int) > 0) = true := decide_eq_true (by omega)
      refine Ev.step 1 (fun k => F86c6_eq k _ _ _) ?_
      simp only [hg, if_true, w1, w2]
      rw [e]
      exact ih x (t * 10) hx (by omega) (by omega)
  have key : ∀ (n q : Nat), n ≤ 1000 → q ≤ 500 - n / 4 → Ev (fun k => F86c2 k (n : Int) (List.replicate q 0)) ((digs (10 ^ n * 10000 ^ q), ()), ((), ())) := by
    intro n
    induction n using Nat.strongRecOn with
    | _ n ih =>
      intro q hn hq
      refine Ev.step 1 (fun k => F86c2_eq k _ _) ?_
      by_cases h4 : 4 ≤ n
      · have hg : decide ((n : Int) ≥ 4) = true := decide_eq_true (by omega)
        have hc : decide ((List.replicate q (0 : Int)).length + [(0 : Int)].length ≤ 17592186044416) = true := decide_eq_true (by simp; omega)
        have w1 : IntKind.i64.wrap ((n : Int) - 4) = ((n - 4 : Nat) : Int) := by rw [wrap64 (by omega) (by omega)]; omega
        have er : List.replicate q (0 : Int) ++ [0] = List.replicate (q + 1) 0 := List.replicate_succ'.symm
        have e : 10 ^ n * 10000 ^ q = 10 ^ (n - 4) * 10000 ^ (q + 1) := by
          have h1 : 10 ^ n = 10 ^ (n - 4) * 10000 := by
            have : n = (n - 4) + 4 := by omega
            rw [this, Nat.pow_add]
            simp
          rw [h1, Nat.pow_succ]
          grind
        simp only [hg, if_true, hc, w1, er]
        rw [e]
        exact ih (n - 4) (by omega) (q + 1) (by omega) (by omega)
      · have hg : decide ((n : Int) ≥ 4) = false := decide_eq_false (by omega)
        have hp : 10 ^ n ≤ 1000 := by
          have : n = 0 ∨ n = 1 ∨ n = 2 ∨ n = 3 := by omega
          rcases this with h | h | h | h <;> subst h <;> decide
        have hp0 : 0 < 10 ^ n := Nat.pow_pos (by omega)
        simp only [hg, Bool.false_eq_true, if_false]
        have := top n (List.replicate q 0) 1 (by simp; omega) (by omega) (by omega)
        rw [Nat.one_mul, tens_digs q hp0 (by omega)] at this
        exact this
  have := key n 0 hn (by omega)
  rw [Nat.pow_zero, Nat.mul_one] at this
  exact Ev.step 2 (fun k => F86_eq k n) this
end Go.Proofs.YthbibdpbfgoghaaGreatDoor.R
end

section
/-! Rf, decimals: figures; what is in order. -/
set_option autoImplicit false
set_option linter.unusedSimpArgs false
namespace Go.Proofs.YthbibdpbfgoghaaGreatDoor.R
open Go.Rf
theorem toIntS_ev (l : List Int) (h : l.length ≤ 1048576) : Ev (fun k => F7 k l) ((l, ()), ((), ())) := by
  refine Ev.step 2 (fun k => F7_eq k l) ?_
  have c : (decide (0 ≤ (l.length : Int)) && decide ((l.length : Int) ≤ (l.length : Int)) && decide ((l.length : Int) ≤ (17592186044416 : Int))) = true := by simp; omega
  simp only [c, if_true]
  have := copy_loop (L := fun k x3 i => F7c3 k l x3 i) (x0 := l) (g := fun _ y => some y) (f := id) (fin := fun x => ((x, ()), ((), ()))) (h := id) (by omega) (fun k x3 i => F7c3_eq k l x3 i) (fun y _ => Ev.now y)
    (List.replicate (l.length : Int).toNat (0 : Int)) (by simp)
  simpa using this
theorem eqIntS_ev (l : List Int) (h : l.length ≤ 1048576) : Ev (fun k => F11 k l l) ((true, ()), ((), (), ())) := by
  refine Ev.step 2 (fun k => F11_eq k l l) ?_
  simp only [bne_self_eq_false, Bool.false_eq_true, if_false]
  exact same_loop (L := fun k i => F11c4 k l l i) (x0 := l) (g := fun _ y1 y2 => some (y1 == y2)) (p := id) (no := ((false, ()), ((), (), ()))) (h := fun _ => true) (by omega) (fun k i => F11c4_eq k l l i) (fun y _ => by
    simp only [beq_self_eq_true]
    exact ⟨Ev.now _, rfl⟩)
theorem szIntS_ev (l : List Int) (hlen : l.length ≤ 9223372036854775807) (b : Int) (h0 : 0 ≤ b) (hb : b ≤ 1048576) : ∃ r, Ev (fun k => F55 k l b) r ∧ (r.1.1 < 0 ∨ (0 ≤ r.1.1 ∧ r.1.1 ≤ b ∧ l.length ≤ 1048576)) := by
  have st : ∀ {r}, Ev (fun _ => if decide (IntKind.i64.wrap (b - (l.length : Int)) < (0 : Int)) = true then some (((-1 : Int), ()), ((), (), ())) else some (((IntKind.i64.wrap (b - (l.length : Int))), ()), ((), (), ()))) r → Ev (fun k => F55 k l b) r := fun h => Ev.step 2 (fun k => F55_eq k l b) h
  rw [wrap64 (by omega) (by omega)] at st
  by_cases hn : b - (l.length : Int) < 0
  · refine ⟨(((-1 : Int), ()), ((), (), ())), st ?_, .inl (by decide : (-1 : Int) < 0)⟩
    simp only [hn, decide_true, if_true]
    exact Ev.now _
  · refine ⟨(((b - (l.length : Int)), ()), ((), (), ())), st ?_, .inr ?_⟩
    · have : decide (b - (l.length : Int) < 0) = false := by simp; omega
      simp only [this, Bool.false_eq_true, if_false]
      exact Ev.now _
    · exact ⟨by show 0 ≤ b - (l.length : Int); omega, by show b - (l.length : Int) ≤ b; omega, by omega⟩
theorem l1In_ev (n lo hi : Int) : Ev (fun k => F28 k n lo hi) ((within n lo hi, ()), ((), (), (), ())) := by
  refine Ev.step 2 (fun k => F28_eq k n lo hi) ?_
  unfold within
  cases decide (n ≥ lo) with
  | true => exact Ev.now _
  | false => exact Ev.now _
theorem in_ev (n lo hi : Int) : Ev (fun k => F23 k n lo hi) ((within n lo hi, ()), ((), (), (), ())) := by
  refine Ev.step 2 (fun k => F23_eq k n lo hi) ?_
  unfold within
  cases decide (n ≥ lo) with
  | true => exact Ev.now _
  | false => exact Ev.now _
/-! ### figures -/
theorem l1Dec_ev : ∀ n : Nat, n ≤ 1000000000000000000 → Ev (fun k => F83 k (n : Int)) ((⟨(Lib.decDigits n).toArray⟩, ()), ((), ())) := by
  intro n
  induction n using Nat.strongRecOn with
  | _ n ih =>
    intro hn
    have c1 : decide ((n : Int) < (-9223372036854775807 : Int)) = false := decide_eq_false (by omega)
    have c2 : decide ((n : Int) < 0) = false := decide_eq_false (by omega)
    refine Ev.step 2 (fun k => F83_eq k n) ?_
    simp only [c1, c2, Bool.false_eq_true, if_false]
    by_cases h : n < 10
    · have c3 : decide ((n : Int) < 10) = true := decide_eq_true (by omega)
      rw [Lib.decDigits, dif_pos h]
      simp only [c3, if_true, bytesOf_digit h]
      exact Ev.now _
    · have c3 : decide ((n : Int) < 10) = false := decide_eq_false (by omega)
      have e1 : IntKind.i64.wrap ((n : Int).tdiv 10) = ((n / 10 : Nat) : Int) := by
        rw [Int.tdiv_eq_ediv_of_nonneg (by omega), wrap64 (by omega) (by omega)]
        omega
      have e2 : (n : Int).tmod 10 = ((n % 10 : Nat) : Int) := by
        rw [Int.tmod_eq_emod_of_nonneg (by omega)]
        omega
      have hl := decDigits_len 18 (n / 10) (by omega)
      rw [Lib.decDigits, dif_neg h]
      simp only [c3, Bool.false_eq_true, if_false, e1, e2, bytesOf_digit (show n % 10 < 10 by omega)]
      refine Ev.bind (ih (n / 10) (by omega) (by omega)) ?_
      have hb : Nat.ble ((Lib.decDigits (n / 10)).length + [UInt8.ofNat (48 + n % 10)].length) 9223372036854775807 = true := Nat.ble_eq_true_of_le (by simp; omega)
      simp only [bytes_size, hb, if_true, bytes_append]
      exact Ev.now _
theorem l1Wide_ev {d : Int} (h : 0 ≤ d ∧ d ≤ 9999) : Ev (fun k => F84 k d 4) ((⟨(fig4 d).toArray⟩, ()), ((), (), ())) := by
  obtain ⟨n, rfl⟩ : ∃ n : Nat, d = (n : Int) := ⟨d.toNat, by omega⟩
  have hl := itoa_len4 h
  refine Ev.step 2 (fun k => F84_eq k _ _) (Ev.bind (l1Dec_ev n (by omega)) ?_)
  have key : ∀ (m : Nat) (x : List UInt8), x.length + m = 4 ∨ (m = 0 ∧ 4 ≤ x.length) → Ev (fun k => F84c2 k 4 ⟨x.toArray⟩) ((⟨(Lib.repeatL [48] m ++ x).toArray⟩, ()), ((), (), ())) := by
    intro m
    induction m with
    | zero =>
      intro x hx
      have c : decide ((x.length : Int) < 4) = false := decide_eq_false (by omega)
      refine Ev.step 1 (fun k => F84c2_eq k _ _) ?_
      simp only [bytes_size, c, Bool.false_eq_true, if_false]
      exact Ev.now _
    | succ m ih =>
      intro x hx
      have c : decide ((x.length : Int) < 4) = true := decide_eq_true (by omega)
      have hb : Nat.ble ([(48 : UInt8)].length + x.length) 9223372036854775807 = true := Nat.ble_eq_true_of_le (by simp; omega)
      refine Ev.step 1 (fun k => F84c2_eq k _ _) ?_
      have e : (⟨#[48]⟩ : ByteArray) = ⟨[(48 : UInt8)].toArray⟩ := rfl
      simp only [e, bytes_size, c, if_true, hb, bytes_append]
      have := ih ([48] ++ x) (by simp; omega)
      have e2 : Lib.repeatL [48] m ++ ([48] ++ x) = Lib.repeatL [48] (m + 1) ++ x := by
        rw [Lib.repeatL_add, Lib.repeatL_one, List.append_assoc]
      rw [e2] at this
      exact this
  have := key (4 - (Lib.itoa (n : Int)).length) (Lib.decDigits n) (by rw [itoa_nat] at hl ⊢; omega)
  unfold fig4
  rw [itoa_nat] at this ⊢
  exact this
theorem l1Figures_ev {l : List Int} (hr : InR l) (hl : l.length ≤ 1000000) : Ev (fun k => F69 k l) ((textL l, ()), ((), ())) := by
  refine Ev.step 2 (fun k => F69_eq k l) ?_
  rcases Nat.eq_zero_or_pos l.length with h0 | h0
  · obtain rfl := List.eq_nil_of_length_eq_zero h0
    exact Ev.now _
  · obtain ⟨n, hn⟩ : ∃ n, l.length = n + 1 := ⟨l.length - 1, by omega⟩
    have c : ((l.length : Int) == 0) = false := len0_false h0
    have hlt : n < l.length := by omega
    have rn := hr.at hlt
    obtain ⟨d, hd⟩ : ∃ d : Nat, l.getD n 0 = (d : Int) := ⟨(l.getD n 0).toNat, by omega⟩
    simp only [c, Bool.false_eq_true, if_false, pred_len hn (by omega), ge0, if_true, Int.toNat_natCast, getI_of hlt, Option.bind_some, hd]
    refine Ev.bind (l1Dec_ev d (by omega)) ?_
    have w : IntKind.i64.wrap ((l.length : Int) - 2) = (n : Int) - 1 := by rw [wrap64 (by omega) (by omega)]; omega
    rw [w, textL_pos (by intro e; subst e; simp at h0)]
    have key : ∀ m, m ≤ n → Ev (fun k => F69c5 k l ⟨(figs (l.drop m)).toArray⟩ ((m : Int) - 1)) ((⟨(figs l).toArray⟩, ()), ((), ())) := by
      intro m
      induction m with
      | zero =>
        intro _
        exact Ev.step 1 (fun k => F69c5_eq k _ _ _) (Ev.now _)
      | succ m ih =>
        intro hm
        have e : ((m + 1 : Nat) : Int) - 1 = (m : Int) := by omega
        have hge : decide ((m : Int) ≥ 0) = true := by simp
        have hml : m < l.length := by omega
        have h1 := figs_len (l := l.drop (m + 1)) (fun d hd => hr d (List.mem_of_mem_drop hd))
        have h2 := fig4_len (hr.at hml)
        have hb : Nat.ble ((figs (l.drop (m + 1))).length + (fig4 (l.getD m 0)).length) 9223372036854775807 = true := Nat.ble_eq_true_of_le (by rw [List.length_drop] at h1; omega)
        rw [e]
        refine Ev.step 1 (fun k => F69c5_eq k _ _ _) ?_
        simp only [hge, if_true, ge0, Int.toNat_natCast, getI_of hml, Option.bind_some]
        refine Ev.bind (l1Wide_ev (hr.at hml)) ?_
        simp only [bytes_size, hb, if_true, bytes_append, ← figs_drop (show m + 1 < l.length by omega)]
        rw [wrap64 (by omega) (by omega)]
        exact ih (by omega)
    have := key n (Nat.le_refl _)
    rw [figs_last hn, hd, itoa_nat] at this
    exact this
theorem l1Long_ev {l : List Int} (hr : InR l) (hl : l.length ≤ 1000000) : Ev (fun k => F58 k l) ((long l, ()), ((), ())) := by
  refine Ev.step 2 (fun k => F58_eq k l) ?_
  unfold long
  by_cases h : l.length = 0
  · have c : ((l.length : Int) == 0) = true := by simp [h]
    simp only [c, if_true, h]
    exact Ev.now _
  · have c : ((l.length : Int) == 0) = false := len0_false (Nat.pos_of_ne_zero h)
    simp only [c, h, Bool.false_eq_true, if_false]
    exact Ev.bind (l1Figures_ev hr hl) (Ev.now _)
theorem text_ev {l : List Int} (hr : InR l) (hl : l.length ≤ 1000000) : Ev (fun k => F63 k l) ((textL l, ()), ((), ())) := by
  refine Ev.step 1 (fun k => F63_eq k l) ?_
  have : textR (l, ()) = some ((textL l, ()), ((), ())) := if_pos (limbsOk_of hr hl)
  rw [this]
  exact Ev.now _
theorem digits_ev {l : List Int} (hr : InR l) (hl : l.length ≤ 1000000) : Ev (fun k => F51 k l) ((long l, ()), ((), ())) := by
  refine Ev.step 2 (fun k => F51_eq k l) ?_
  unfold long
  by_cases h : l.length = 0
  · have c : ((l.length : Int) == 0) = true := by simp [h]
    simp only [c, if_true, h]
    exact Ev.now _
  · have c : ((l.length : Int) == 0) = false := len0_false (Nat.pos_of_ne_zero h)
    simp only [c, h, Bool.false_eq_true, if_false]
    exact Ev.bind (text_ev hr hl) (Ev.now _)
/-! ### in order -/
theorem idx_ev (l : List Int) (h : l.length ≤ 1048576) : ∃ r, Ev (fun k => F63037 k l) r ∧ decide (r.1.1 ≥ (0 : Int)) = !rangeOk l := by
  obtain ⟨r, h1, h2⟩ := find_loop (L := fun k i => F63037c2 k l (l.length : Int) i) (n := l.length) (no := fun i => (((i : Int), ()), ((), (), ()))) (yes := (((-1 : Int), ()), ((), (), ()))) (c := fun i => within (l.getD i 0) 0 9999) (fun i hi hc => by
      refine Ev.step 1 (fun k => F63037c2_eq k l _ i) ?_
      simp only [lt_true hi, ge0, if_true, Int.toNat_natCast, getI_of hi, Option.bind_some]
      refine Ev.bind (Ev.step 2 (fun k => F62_eq k _) (Ev.bind (in_ev _ _ _) (Ev.now _))) ?_
      simp only [hc, Bool.not_false, if_true]
      exact Ev.now _) (fun i hi hc r hr => by
      refine Ev.step 1 (fun k => F63037c2_eq k l _ i) ?_
      simp only [lt_true hi, ge0, if_true, Int.toNat_natCast, getI_of hi, Option.bind_some]
      refine Ev.bind (Ev.step 2 (fun k => F62_eq k _) (Ev.bind (in_ev _ _ _) (Ev.now _))) ?_
      simp only [hc, Bool.not_true, Bool.false_eq_true, if_false]
      rw [wrap_succ (by omega)]
      exact hr) (by
      refine Ev.step 1 (fun k => F63037c2_eq k l _ l.length) ?_
      simp only [lt_false (Nat.le_refl l.length), Bool.false_eq_true, if_false]
      exact Ev.now _)
  refine ⟨r, Ev.step 2 (fun k => F63037_eq k l) h1, ?_⟩
  unfold rangeOk
  rcases h2 with ⟨h2, rfl⟩ | ⟨h2, i, _, rfl⟩
  · rw [h2]; rfl
  · rw [h2]; simp
theorem has_ev (l : List Int) (h : l.length ≤ 1048576) : Ev (fun k => F63021 k l) ((!rangeOk l, ()), ((), (), ())) := by
  obtain ⟨r, h1, h2⟩ := idx_ev l h
  refine Ev.step 2 (fun k => F63021_eq k l) (Ev.bind h1 ?_)
  simp only [h2]
  exact Ev.now _
theorem BigOk_ev (neg : Bool) (l : List Int) (h : l.length ≤ 1048576) : Ev (fun k => F50 k neg l) ((bOk neg l, ()), (((), (), ()), ())) := by
  refine Ev.step 2 (fun k => F50_eq k neg l) ?_
  unfold bOk lastOk
  by_cases h16 : l.length ≤ 16
  · have c16 : decide ((l.length : Int) ≤ 16) = true := decide_eq_true (by omega)
    rcases Nat.eq_zero_or_pos l.length with h0 | h0
    · have c0 : ((l.length : Int) == 0) = true := by simp [h0]
      have cg : decide ((l.length : Int) > 0) = false := by simp [h0]
      simp only [c16, h16, c0, cg, h0, decide_true, if_true, Bool.true_and]
      cases neg with
      | true =>
        simp only [Bool.not_true, Bool.false_eq_true, if_false, Bool.and_false]
        exact Ev.now _
      | false =>
        simp only [Bool.not_false, if_true, Bool.and_true]
        refine Ev.bind (has_ev l h) ?_
        simp only [Bool.not_not]
        exact Ev.now _
    · obtain ⟨n, hn⟩ : ∃ n, l.length = n + 1 := ⟨l.length - 1, by omega⟩
      have c0 : ((l.length : Int) == 0) = false := len0_false h0
      have hne : ¬ l.length = 0 := by omega
      have hlt : n < l.length := by omega
      have e : l.length - 1 = n := by omega
      simp only [c16, h16, c0, hne, e, gt_true h0, pred_len hn (by omega), ge0, decide_true, if_true, Bool.true_and, Bool.false_eq_true, if_false, Int.toNat_natCast, getI_of hlt, Option.bind_some]
      cases hz : (l.getD n 0 != 0) with
      | true =>
        simp only [if_true, Bool.and_true]
        refine Ev.bind (has_ev l h) ?_
        simp only [Bool.not_not]
        exact Ev.now _
      | false =>
        simp only [Bool.false_eq_true, if_false, Bool.and_false]
        exact Ev.now _
  · have c16 : decide ((l.length : Int) ≤ 16) = false := decide_eq_false (by omega)
    simp only [c16, h16, decide_false, Bool.false_and, Bool.false_eq_true, if_false]
    exact Ev.now _
theorem l1Ok_ev (neg : Bool) (l : List Int) (h : l.length ≤ 1048576) : Ev (fun k => F57 k neg l) ((bOk neg l, ()), (((), (), ()), ())) := by
  refine Ev.step 2 (fun k => F57_eq k neg l) ?_
  by_cases h16 : l.length ≤ 16
  · have c16 : decide ((l.length : Int) > 16) = false := decide_eq_false (by omega)
    have loop : ∀ {q : Bool}, (l.length = 0 → q = true) → (∀ n, l.length = n + 1 → q = (l.getD n 0 != 0)) → Ev (fun k => F57c4 k neg l 0) ((rangeOk l && q, ()), (((), (), ()), ())) := by
      intro q q0 q1
      have := all_loop' (L := fun k i => F57c4 k neg l i) (n := l.length) (c := fun i => within (l.getD i 0) 0 9999) (no := ((false, ()), (((), (), ()), ()))) (yes := ((q, ()), (((), (), ()), ()))) (fun i hi hc => by
        refine Ev.step 1 (fun k => F57c4_eq k _ _ _) ?_
        simp only [lt_true hi, ge0, if_true, Int.toNat_natCast, getI_of hi, Option.bind_some]
        refine Ev.bind (l1In_ev _ _ _) ?_
        simp only [hc, Bool.not_false, if_true]
        exact Ev.now _) (fun i hi hc r hr => by
        refine Ev.step 1 (fun k => F57c4_eq k _ _ _) ?_
        simp only [lt_true hi, ge0, if_true, Int.toNat_natCast, getI_of hi, Option.bind_some]
        refine Ev.bind (l1In_ev _ _ _) ?_
        simp only [hc, Bool.not_true, Bool.false_eq_true, if_false]
        rw [wrap_succ (by omega)]
        exact hr) (fun _ => by
        refine Ev.step 1 (fun k => F57c4_eq k _ _ _) ?_
        simp only [lt_false (Nat.le_refl l.length), Bool.false_eq_true, if_false]
        rcases Nat.eq_zero_or_pos l.length with h0 | h0
        · have c0 : ((l.length : Int) == 0) = true := by simp [h0]
          simp only [c0, if_true, q0 h0]
          exact Ev.now _
        · obtain ⟨n, hn⟩ : ∃ n, l.length = n + 1 := ⟨l.length - 1, by omega⟩
          have c0 : ((l.length : Int) == 0) = false := len0_false h0
          have hlt : n < l.length := by omega
          simp only [c0, Bool.false_eq_true, if_false, pred_len hn (by omega), ge0, if_true, Int.toNat_natCast, getI_of hlt, Option.bind_some, q1 n hn]
          exact Ev.now _)
      unfold rangeOk
      cases hall : (List.range l.length).all (fun i => within (l.getD i 0) 0 9999) with
      | true =>
        rw [hall] at this
        simpa using this
      | false =>
        rw [hall] at this
        simpa using this
    unfold bOk lastOk
    simp only [c16, h16, decide_true, Bool.true_and, Bool.false_eq_true, if_false]
    by_cases h0 : l.length = 0
    · have c0 : ((l.length : Int) == 0) = true := by simp [h0]
      cases neg with
      | true =>
        simp only [c0, h0, if_true, Bool.not_true, Bool.and_false]
        exact Ev.now _
      | false =>
        have := loop (q := true) (fun _ => rfl) (fun n hn => by omega)
        simpa only [h0, if_true, Bool.not_false, Bool.false_eq_true, if_false] using this
    · have c0 : ((l.length : Int) == 0) = false := len0_false (Nat.pos_of_ne_zero h0)
      have := loop (q := (l.getD (l.length - 1) 0 != 0)) (fun e => absurd e h0) (fun n hn => by rw [hn]; rfl)
      cases neg with
      | true => simpa only [c0, h0, if_true, Bool.false_eq_true, if_false] using this
      | false => simpa only [h0, Bool.false_eq_true, if_false] using this
  · have c16 : decide ((l.length : Int) > 16) = true := decide_eq_true (by omega)
    unfold bOk
    simp only [c16, h16, decide_false, Bool.false_and, if_true]
    exact Ev.now _
end Go.Proofs.YthbibdpbfgoghaaGreatDoor.R
end

section
/-! Rf, decimals: compared; the law's helpers. -/
set_option autoImplicit false
namespace Go.Proofs.YthbibdpbfgoghaaGreatDoor.R
open Go.Rf
theorem DecOk_ev (neg : Bool) (l : List Int) (s : Int) (h : l.length ≤ 1048576) : Ev (fun k => F32 k neg l s) ((decOk neg l s, ()), (((), (), (), ()), ())) := by
  refine Ev.step 2 (fun k => F32_eq k neg l s) (Ev.bind (BigOk_ev neg l h) ?_)
  unfold decOk
  cases hb : bOk neg l with
  | false => exact Ev.now _
  | true =>
    obtain ⟨h16, hr, _, _⟩ := bOk_of hb
    simp only [if_true, Bool.true_and]
    refine Ev.bind (digits_ev hr (by omega)) ?_
    cases decide (long l ≤ 30) with
    | false => exact Ev.now _
    | true =>
      simp only [if_true, Bool.true_and]
      exact Ev.bind (in_ev _ _ _) (Ev.now _)
theorem l2Ok_ev (neg : Bool) (l : List Int) (s : Int) (h : l.length ≤ 1048576) : Ev (fun k => F43 k neg l s) ((decOk neg l s, ()), (((), (), (), ()), ())) := by
  refine Ev.step 2 (fun k => F43_eq k neg l s) (Ev.bind (l1Ok_ev neg l h) ?_)
  unfold decOk
  cases hb : bOk neg l with
  | false => exact Ev.now _
  | true =>
    obtain ⟨h16, hr, _, _⟩ := bOk_of hb
    simp only [if_true, Bool.true_and]
    refine Ev.bind (l1Long_ev hr (by omega)) ?_
    cases decide (long l ≤ 30) with
    | false => exact Ev.now _
    | true =>
      simp only [if_true, Bool.true_and]
      exact Ev.bind (l1In_ev _ _ _) (Ev.now _)
/-- a decimal in order: its number -/
def num (l : List Int) : Nat := (VI l).toNat
theorem num_spec {l : List Int} (h : InR l) : VI l = (num l : Int) := by
  have := VI_nonneg h
  unfold num
  omega
theorem digs_num {l : List Int} (h : InR l) (t : Trim l) : digs (num l) = l := digs_VI h t
theorem num_pos {neg : Bool} {l : List Int} (h : bOk neg l = true) (hn : neg = true) : 0 < num l := by
  obtain ⟨_, hr, ht, h0⟩ := bOk_of h
  have := VI_pos hr ht (fun e => by have := h0 e; rw [hn] at this; cases this)
  have := num_spec hr
  omega
theorem num_lt {l : List Int} (h : InR l) (hl : l.length ≤ 16) : num l < 10000 ^ 16 := by
  have h1 : VI l < ((10000 ^ l.length : Nat) : Int) := by
    rw [Int.natCast_pow]
    exact VI_lt h
  have h2 := num_spec h
  have h3 : (10000 : Nat) ^ l.length ≤ 10000 ^ 16 := Nat.pow_le_pow_right (by omega) hl
  exact Nat.lt_of_lt_of_le (by omega) h3
theorem at_len {V m : Nat} (hV : V < 10000 ^ 16) (hm : m ≤ 24) : (digs (V * 10 ^ m)).length ≤ 40 := by
  refine digs_len_le ?_
  have h1 : 10 ^ m ≤ 10 ^ 24 := Nat.pow_le_pow_right (by omega) hm
  have h2 : V * 10 ^ m ≤ V * 10 ^ 24 := Nat.mul_le_mul_left V h1
  have h3 : V * 10 ^ 24 < 10000 ^ 16 * 10 ^ 24 := Nat.mul_lt_mul_of_pos_right hV (Nat.pow_pos (by omega))
  have h4 : 10000 ^ 16 * 10 ^ 24 ≤ 10000 ^ 40 := by decide
  omega
theorem at_ev {neg : Bool} {l : List Int} {s m : Nat} (hr : InR l) (hl : l.length ≤ 16) (hm : m ≤ 24) : Ev (fun k => F78 k neg l (s : Int) ((s + m : Nat) : Int)) (((neg, digs (num l * 10 ^ m), ()), ()), (((), (), (), ()), (), ())) := by
  have w : IntKind.i64.wrap (((s + m : Nat) : Int) - (s : Int)) = (m : Int) := by rw [wrap64 (by omega) (by omega)]; omega
  have hmul := mul_ev (a := l) (b := digs (10 ^ m)) hr (digs_spec _).1 (by omega) (by have := ten_len m; omega)
  have e : (VI l * VI (digs (10 ^ m))).toNat = num l * 10 ^ m := by
    rw [VI_digs, num_spec hr]
    rfl
  rw [e] at hmul
  refine Ev.step 2 (fun k => F78_eq k _ _ _ _) (Ev.bind (Ev.step 2 (fun k => F95_eq k _ _) (Ev.now _)) ?_)
  simp only [w]
  exact Ev.bind (ten_ev m (by omega)) (Ev.bind hmul (Ev.now _))
theorem l2At_ev {neg : Bool} {l : List Int} {s m : Nat} (hr : InR l) (hl : l.length ≤ 16) (hm : m ≤ 24) : Ev (fun k => F71 k neg l (s : Int) ((s + m : Nat) : Int)) ((digs (num l * 10 ^ m), ()), (((), (), (), ()), (), ())) := by
  have w : IntKind.i64.wrap (((s + m : Nat) : Int) - (s : Int)) = (m : Int) := by rw [wrap64 (by omega) (by omega)]; omega
  have hmul := l1MulAbs_ev (a := l) (b := digs (10 ^ m)) hr (digs_spec _).1 (by omega) (by have := ten_len m; omega)
  have e : (VI l * VI (digs (10 ^ m))).toNat = num l * 10 ^ m := by
    rw [VI_digs, num_spec hr]
    rfl
  rw [e] at hmul
  refine Ev.step 2 (fun k => F71_eq k _ _ _ _) ?_
  simp only [w]
  exact Ev.bind (l1TenAbs_ev m (by omega)) (Ev.bind hmul (Ev.now _))
/-- a sum with signs -/
def sSum (na : Bool) (A : Nat) (nb : Bool) (B : Nat) : Bool × Nat := if na = nb then (na, A + B) else if B ≤ A then (na, A - B) else (nb, B - A)
theorem cmpI_ge {A B : Nat} : decide (cmpI A B ≥ 0) = decide (B ≤ A) := by
  unfold cmpI
  split
  · rw [decide_eq_false (by omega), decide_eq_false (by omega)]
  · split
    · rw [decide_eq_true (by omega), decide_eq_true (by omega)]
    · rw [decide_eq_true (by omega), decide_eq_true (by omega)]
theorem sAdd_ev {na nb : Bool} {A B : Nat} (la : (digs A).length ≤ 100000) (lb : (digs B).length ≤ 100000) : Ev (fun k => F79 k na (digs A) nb (digs B)) ((((sSum na A nb B).1, digs (sSum na A nb B).2, ()), ()), (((), (), ()), ((), (), ()), ())) := by
  obtain ⟨ra, ta, va⟩ := digs_spec A
  obtain ⟨rb, tb, vb⟩ := digs_spec B
  refine Ev.step 2 (fun k => F79_eq k _ _ _ _) ?_
  unfold sSum
  by_cases hn : na = nb
  · subst hn
    have hadd := add_ev ra rb la lb
    have e : (VI (digs A) + VI (digs B)).toNat = A + B := by rw [va, vb]; omega
    rw [e] at hadd
    simp only [beq_self_eq_true, if_true]
    exact Ev.bind hadd (Ev.now _)
  · have c : (na == nb) = false := by simp [hn]
    simp only [c, hn, Bool.false_eq_true, if_false]
    refine Ev.bind (cmp_ev ra rb ta tb va vb (by omega) (by omega)) ?_
    simp only [cmpI_ge]
    by_cases hle : B ≤ A
    · have hsub := sub_ev ra rb tb la (by rw [va, vb]; omega)
      have e : (VI (digs A) - VI (digs B)).toNat = A - B := by rw [va, vb]; omega
      rw [e] at hsub
      simp only [hle, decide_true, if_true]
      exact Ev.bind hsub (Ev.now _)
    · have hsub := sub_ev rb ra ta lb (by rw [va, vb]; omega)
      have e : (VI (digs B) - VI (digs A)).toNat = B - A := by rw [va, vb]; omega
      rw [e] at hsub
      simp only [hle, decide_false, Bool.false_eq_true, if_false]
      exact Ev.bind hsub (Ev.now _)
theorem sign_ev {neg : Bool} {A : Nat} : Ev (fun k => F81 k neg (digs A)) ((if A = 0 then 0 else if neg = true then -1 else 1, ()), (((), (), ()), ())) := by
  by_cases h : A = 0
  · subst h
    rw [digs_zero, if_pos rfl]
    exact Ev.step 2 (fun k => F81_eq k _ _) (Ev.now _)
  · refine Ev.step 2 (fun k => F81_eq k _ _) ?_
    have c : (((digs A).length : Int) == 0) = false := len0_false (Nat.pos_of_ne_zero (fun e => h (digs_nil.1 (List.eq_nil_of_length_eq_zero e))))
    simp only [c, h, Bool.false_eq_true, if_false]
    cases neg with
    | true => exact Ev.now _
    | false => exact Ev.now _
/-- numbers with signs compared -/
def sCmp (na : Bool) (A : Nat) (nb : Bool) (B : Nat) : Int := if na = nb then if na = true then cmpI B A else cmpI A B else if na = true then -1 else 1
theorem l1Cmp_ev {na nb : Bool} {A B : Nat} (la : (digs A).length ≤ 100000) (lb : (digs B).length ≤ 100000) : Ev (fun k => F72 k na (digs A) nb (digs B)) ((sCmp na A nb B, ()), (((), (), ()), ((), (), ()), ())) := by
  obtain ⟨ra, ta, va⟩ := digs_spec A
  obtain ⟨rb, tb, vb⟩ := digs_spec B
  refine Ev.step 2 (fun k => F72_eq k _ _ _ _) ?_
  unfold sCmp
  cases na with
  | true =>
    cases nb with
    | true => exact Ev.bind (l1CmpAbs_ev rb ra tb ta vb va (by omega)) (Ev.now _)
    | false => exact Ev.now _
  | false =>
    cases nb with
    | true => exact Ev.now _
    | false => exact Ev.bind (l1CmpAbs_ev ra rb ta tb va vb (by omega)) (Ev.now _)
theorem sSum_sCmp {na nb : Bool} {A B : Nat} (ha : na = true → 0 < A) (hb : nb = true → 0 < B) : (if (sSum na A (!nb) B).2 = 0 then 0 else if (sSum na A (!nb) B).1 = true then -1 else 1 : Int) = sCmp na A nb B := by
  unfold sSum sCmp
  cases na with
  | true =>
    have h1 := ha rfl
    cases nb with
    | true =>
      simp only [Bool.not_true, Bool.true_eq_false, if_false, if_true]
      rcases Nat.lt_trichotomy A B with h | h | h
      · rw [if_neg (show ¬ B ≤ A by omega), cmpI_gt h]
        simp only [Bool.false_eq_true, if_false]
        rw [if_neg (by omega)]
      · subst h
        simp [cmpI_eq]
      · rw [if_pos (show B ≤ A by omega), cmpI_lt h]
        simp only [if_true]
        rw [if_neg (by omega)]
    | false =>
      simp only [Bool.not_false, if_true, Bool.true_eq_false, if_false]
      rw [if_neg (by omega)]
  | false =>
    cases nb with
    | true =>
      have h2 := hb rfl
      simp only [Bool.not_true, if_true, Bool.false_eq_true, if_false]
      rw [if_neg (by omega)]
    | false =>
      simp only [Bool.not_false, Bool.false_eq_true, if_false, if_true]
      rcases Nat.lt_trichotomy A B with h | h | h
      · rw [if_neg (show ¬ B ≤ A by omega), cmpI_lt h]
        simp only [if_true]
        rw [if_neg (by omega)]
      · subst h
        simp [cmpI_eq]
      · rw [if_pos (show B ≤ A by omega), cmpI_gt h]
        simp only [Bool.false_eq_true, if_false]
        rw [if_neg (by omega)]
/-- how decimals in order compare -/
def dCmp (n1 : Bool) (l1 : List Int) (s1 : Nat) (n2 : Bool) (l2 : List Int) (s2 : Nat) : Int := sCmp n1 (num l1 * 10 ^ (max s1 s2 - s1)) n2 (num l2 * 10 ^ (max s1 s2 - s2))
section
variable {n1 n2 : Bool} {l1 l2 : List Int} {s1 s2 : Nat}
theorem cmpD_ev (h1 : bOk n1 l1 = true) (h2 : bOk n2 l2 = true) (hs1 : s1 ≤ 12) (hs2 : s2 ≤ 12) : Ev (fun k => F66 k n1 l1 (s1 : Int) n2 l2 (s2 : Int)) ((dCmp n1 l1 s1 n2 l2 s2, ()), (((), (), (), ()), ((), (), (), ()), ())) := by
  obtain ⟨a16, ra, ta, _⟩ := bOk_of h1
  obtain ⟨b16, rb, tb, _⟩ := bOk_of h2
  have em : (if (s2 : Int) > (s1 : Int) then (s2 : Int) else (s1 : Int)) = ((max s1 s2 : Nat) : Int) := by split <;> omega
  have e1 : max s1 s2 = s1 + (max s1 s2 - s1) := by omega
  have e2 : max s1 s2 = s2 + (max s1 s2 - s2) := by omega
  have k1 := at_len (num_lt ra a16) (show max s1 s2 - s1 ≤ 24 by omega)
  have k2 := at_len (num_lt rb b16) (show max s1 s2 - s2 ≤ 24 by omega)
  have a1 := at_ev (neg := n1) (s := s1) (m := max s1 s2 - s1) ra a16 (by omega)
  have a2 := at_ev (neg := n2) (s := s2) (m := max s1 s2 - s2) rb b16 (by omega)
  rw [← e1] at a1
  rw [← e2] at a2
  refine Ev.step 2 (fun k => F66_eq k _ _ _ _ _ _) ?_
  simp only [em]
  refine Ev.bind a1 (Ev.bind a2 (Ev.bind (Ev.step 2 (fun k => F80_eq k _ _) (Ev.now _)) (Ev.bind (sAdd_ev (by omega) (by omega)) (Ev.bind sign_ev ?_))))
  unfold dCmp
  have hp : ∀ m : Nat, 0 < 10 ^ m := fun m => Nat.pow_pos (by omega)
  rw [← sSum_sCmp (fun e => Nat.mul_pos (num_pos h1 e) (hp _)) (fun e => Nat.mul_pos (num_pos h2 e) (hp _))]
  exact Ev.now _
theorem l2Cmp_ev (h1 : bOk n1 l1 = true) (h2 : bOk n2 l2 = true) (hs1 : s1 ≤ 12) (hs2 : s2 ≤ 12) : Ev (fun k => F60 k n1 l1 (s1 : Int) n2 l2 (s2 : Int)) ((dCmp n1 l1 s1 n2 l2 s2, ()), (((), (), (), ()), ((), (), (), ()), ())) := by
  obtain ⟨a16, ra, ta, _⟩ := bOk_of h1
  obtain ⟨b16, rb, tb, _⟩ := bOk_of h2
  have hg : Ev (fun k => F70 k (s1 : Int) (s2 : Int)) ((((max s1 s2 : Nat) : Int), ()), ((), (), ())) := by
    refine Ev.step 2 (fun k => F70_eq k _ _) ?_
    by_cases h : s1 > s2
    · have c : decide ((s1 : Int) > (s2 : Int)) = true := decide_eq_true (by omega)
      have e : max s1 s2 = s1 := by omega
      simp only [c, if_true, e]
      exact Ev.now _
    · have c : decide ((s1 : Int) > (s2 : Int)) = false := decide_eq_false (by omega)
      have e : max s1 s2 = s2 := by omega
      simp only [c, Bool.false_eq_true, if_false, e]
      exact Ev.now _
  have e1 : max s1 s2 = s1 + (max s1 s2 - s1) := by omega
  have e2 : max s1 s2 = s2 + (max s1 s2 - s2) := by omega
  have k1 := at_len (num_lt ra a16) (show max s1 s2 - s1 ≤ 24 by omega)
  have k2 := at_len (num_lt rb b16) (show max s1 s2 - s2 ≤ 24 by omega)
  have a1 := l2At_ev (neg := n1) (s := s1) (m := max s1 s2 - s1) ra a16 (by omega)
  have a2 := l2At_ev (neg := n2) (s := s2) (m := max s1 s2 - s2) rb b16 (by omega)
  rw [← e1] at a1
  rw [← e2] at a2
  exact Ev.step 2 (fun k => F60_eq k _ _ _ _ _ _) (Ev.bind hg (Ev.bind a1 (Ev.bind a2 (Ev.bind (l1Cmp_ev (by omega) (by omega)) (Ev.now _)))))
end
/-! ### the law's helpers -/
theorem toDec_ev (n : Bool) (l : List Int) (s : Int) (h : l.length ≤ 1048576) : Ev (fun k => F30 k n l s) (((n, l, s, ()), ()), (((), (), (), ()), ())) :=
  Ev.step 2 (fun k => F30_eq k n l s) (Ev.bind (Ev.step 2 (fun k => F49_eq k n l) (Ev.bind (toIntS_ev l h) (Ev.now _))) (Ev.now _))
theorem eqDec_ev (n : Bool) (l : List Int) (s : Int) (h : l.length ≤ 1048576) : Ev (fun k => F39 k n l s n l s) ((true, ()), (((), (), (), ()), ((), (), (), ()), ())) := by
  have hb : Ev (fun k => F54 k n l n l) ((true, ()), (((), (), ()), ((), (), ()), ())) := by
    refine Ev.step 2 (fun k => F54_eq k n l n l) ?_
    simp only [beq_self_eq_true, Bool.not_true, Bool.false_eq_true, if_false]
    exact Ev.bind (eqIntS_ev l h) (Ev.now _)
  refine Ev.step 2 (fun k => F39_eq k n l s n l s) (Ev.bind hb ?_)
  simp only [Bool.not_true, Bool.false_eq_true, if_false, bne_self_eq_false]
  exact Ev.now _
theorem szDec_ev (n : Bool) (l : List Int) (s : Int) (hlen : l.length ≤ 9223372036854775807) (b : Int) (h0 : 0 ≤ b) (hb : b ≤ 1048576) : ∃ r, Ev (fun k => F26 k n l s b) r ∧ (r.1.1 < 0 ∨ (0 ≤ r.1.1 ∧ r.1.1 ≤ b ∧ l.length ≤ 1048576)) := by
  obtain ⟨r, h1, h2⟩ := szIntS_ev l hlen b h0 hb
  rcases h2 with h2 | ⟨h2, h3, h4⟩
  · refine ⟨(((-1 : Int), ()), (((), (), (), ()), (), ())), Ev.step 2 (fun k => F26_eq k n l s b) (Ev.bind (Ev.step 2 (fun k => F41_eq k n l b) (Ev.bind h1 (r := (((-1 : Int), ()), (((), (), ()), (), ()))) ?_)) (by
      have c : decide ((-1 : Int) < 0) = true := by decide
      simp only [c, if_true]
      exact Ev.now _)), .inl (by decide : (-1 : Int) < 0)⟩
    simp only [h2, decide_true, if_true]
    exact Ev.now _
  · have hneg : decide (r.1.1 < 0) = false := decide_eq_false (by omega)
    refine ⟨((r.1.1, ()), (((), (), (), ()), (), ())), Ev.step 2 (fun k => F26_eq k n l s b) (Ev.bind (Ev.step 2 (fun k => F41_eq k n l b) (Ev.bind h1 (r := ((r.1.1, ()), (((), (), ()), (), ()))) ?_)) ?_), .inr ⟨h2, h3, h4⟩⟩
    · simp only [hneg, Bool.false_eq_true, if_false]
      exact Ev.now _
    · simp only [hneg, Bool.false_eq_true, if_false]
      exact Ev.now _
end Go.Proofs.YthbibdpbfgoghaaGreatDoor.R
end

section
/-! Rf: values in order, types in order. -/
set_option autoImplicit false
set_option linter.unusedSimpArgs false
set_option linter.unusedVariables false
namespace Go.Proofs.YthbibdpbfgoghaaGreatDoor.R
open Go.Rf
def bAt (s : ByteArray) (i : Nat) : Int := match s[i]? with
  | some u => (u.toNat : Int)
  | none => 0
theorem byteAt {s : ByteArray} {i : Nat} (h : i < s.size) : ∃ u : UInt8, s[i]? = some u ∧ bAt s i = (u.toNat : Int) := by
  have : s[i]? = some s[i] := getElem?_pos s i h
  exact ⟨s[i], this, by unfold bAt; rw [this]⟩
def figOk (s : ByteArray) : Bool := (List.range s.size).all fun i => within (bAt s i) 32 126
def textOk (s : ByteArray) : Bool := decide ((s.size : Int) ≤ 12) && figOk s
def noText (s : ByteArray) : Bool := s.toList == (⟨#[]⟩ : ByteArray).toList
def decZ (n : Bool) (l : List Int) (s : Int) : Bool := !n && (((l.length : Int) == 0) && (s == 0))
def dayOk (d : Int) : Bool := within d 1 3652059
def spanOk (m d : Int) : Bool := within m (-120000) 120000 && within d (-4000000) 4000000
/-- nothing but what the kind bears -/
def bareOk (k : Int) (y n : Bool) (l : List Int) (s day mo da : Int) (t : ByteArray) : Bool := ((k == 1) || !y) && (((k == 2) || decZ n l s) && (((k == 3) || (day == 0)) && (((k == 4) || ((mo == 0) && (da == 0))) && ((k == 5) || noText t))))
def bodyOk (k : Int) (n : Bool) (l : List Int) (s day mo da : Int) (t : ByteArray) : Bool := if k = 2 then decOk n l s else if k = 3 then dayOk day else if k = 4 then spanOk mo da else if k = 5 then textOk t else true
def vOk (k : Int) (y n : Bool) (l : List Int) (s day mo da : Int) (t : ByteArray) : Bool := within k 0 5 && (bareOk k y n l s day mo da t && bodyOk k n l s day mo da t)
theorem noText_ok {t : ByteArray} (h : noText t = true) : textOk t = true := by
  have h2 : t.data.toList = [] := by
    have h1 := eq_of_beq h
    rw [Lib.toList_data, Lib.toList_data] at h1
    exact h1
  have h3 : t.size = 0 := by
    show t.data.size = 0
    rw [← Array.length_toList, h2]; rfl
  unfold textOk figOk
  rw [h3]
  rfl
section
variable (k0 : Int) (y n : Bool) (l : List Int) (s day mo da : Int) (t : ByteArray)
theorem l4Zero_ev : Ev (fun k => F56 k n l s) ((decZ n l s, ()), (((), (), (), ()), ())) := by
  refine Ev.step 2 (fun k => F56_eq k _ _ _) (Ev.congr (h := fun _ => some ((decZ n l s, ()), (((), (), (), ()), ()))) (fun _ => ?_) (Ev.now _))
  unfold decZ
  cases n <;> cases h : ((l.length : Int) == 0) <;> simp_all
theorem zero_ev : Ev (fun k => F35 k n l s) ((decZ n l s, ()), (((), (), (), ()), ())) := by
  refine Ev.step 2 (fun k => F35_eq k _ _ _) (Ev.congr (h := fun _ => some ((decZ n l s, ()), (((), (), (), ()), ()))) (fun _ => ?_) (Ev.now _))
  unfold decZ
  cases n <;> cases h : ((l.length : Int) == 0) <;> simp_all
theorem isDay_ev : Ev (fun k => F33 k day) ((dayOk day, ()), ((), ())) := Ev.step 2 (fun k => F33_eq k _) (Ev.bind (in_ev day 1 3652059) (Ev.now _))
theorem l3Is_ev : Ev (fun k => F44 k day) ((dayOk day, ()), ((), ())) := Ev.step 2 (fun k => F44_eq k _) (Ev.bind (l1In_ev day 1 3652059) (Ev.now _))
theorem SpanOk_ev : Ev (fun k => F34 k mo da) ((spanOk mo da, ()), (((), (), ()), ())) := by
  refine Ev.step 2 (fun k => F34_eq k _ _) (Ev.bind (in_ev mo _ _) ?_)
  unfold spanOk
  cases within mo (-120000) 120000 with
  | true => exact Ev.bind (in_ev da _ _) (Ev.now _)
  | false => exact Ev.now _
theorem l3SpanOk_ev : Ev (fun k => F45 k mo da) ((spanOk mo da, ()), (((), (), ()), ())) := by
  refine Ev.step 2 (fun k => F45_eq k _ _) (Ev.bind (l1In_ev mo _ _) ?_)
  unfold spanOk
  cases within mo (-120000) 120000 with
  | true => exact Ev.bind (l1In_ev da _ _) (Ev.now _)
  | false => exact Ev.now _
theorem l4Text_ev (hsz : t.size ≤ 9223372036854775807) : Ev (fun k => F46 k t) ((textOk t, ()), ((), ())) := by
  refine Ev.step 2 (fun k => F46_eq k _) ?_
  have h := all_loop (L := fun k i => F46c2 k t i) (n := t.size) (no := ((false, ()), ((), ()))) (yes := ((decide ((t.size : Int) ≤ 12), ()), ((), ()))) (c := fun i => within (bAt t i) 32 126)
    (fun i hi hc => by
      obtain ⟨u, hu, hb⟩ := byteAt hi
      rw [hb] at hc
      refine Ev.step 1 (fun k => F46c2_eq k _ _) ?_
      simp only [lt_true hi, ge0, if_true, Int.toNat_natCast, hu, Option.bind_some]
      unfold within at hc
      by_cases h1 : (u.toNat : Int) < 32
      · simp only [decide_eq_true h1, if_true]; exact Ev.now _
      · have h2 : (u.toNat : Int) > 126 := by
          refine Decidable.by_contra fun h2 => ?_
          rw [decide_eq_true (show (u.toNat : Int) ≥ 32 by omega), decide_eq_true (show (u.toNat : Int) ≤ 126 by omega)] at hc
          cases hc
        simp only [decide_eq_false h1, decide_eq_true h2, Bool.false_eq_true, if_false, if_true]; exact Ev.now _)
    (fun i hi hc r hr => by
      obtain ⟨u, hu, hb⟩ := byteAt hi
      rw [hb] at hc
      unfold within at hc
      rw [Bool.and_eq_true, decide_eq_true_iff, decide_eq_true_iff] at hc
      refine Ev.step 1 (fun k => F46c2_eq k _ _) ?_
      simp only [lt_true hi, ge0, if_true, Int.toNat_natCast, hu, Option.bind_some, decide_eq_false (show ¬ (u.toNat : Int) < 32 by omega), decide_eq_false (show ¬ (u.toNat : Int) > 126 by omega), Bool.false_eq_true, if_false, wrap_succ (show i < 9223372036854775807 by omega)]
      exact hr)
    (by
      refine Ev.step 1 (fun k => F46c2_eq k _ _) ?_
      simp only [lt_false (Nat.le_refl t.size), Bool.false_eq_true, if_false]
      exact Ev.now _)
  have e : (if (List.range t.size).all (fun i => within (bAt t i) 32 126) = true then ((decide ((t.size : Int) ≤ 12), ()), ((), ())) else ((false, ()), ((), ()))) = ((textOk t, ()), ((), ())) := by
    unfold textOk figOk
    cases (List.range t.size).all (fun i => within (bAt t i) 32 126) <;> simp
  rw [e] at h
  exact h
/-- what is left of a value: nothing -/
def restZ (y n : Bool) (l : List Int) (s day mo da : Int) (t : ByteArray) : Bool := !y && (decZ n l s && ((day == 0) && (((mo == 0) && (da == 0)) && noText t)))
theorem okC21 (b : Bool) : Ev (fun k => F19c21 k k0 y n l s day mo da t b) ((b && restZ y n l s day mo da t, ()), (((), (), (), (), (), (), (), (), (), ()), ())) := by
  refine Ev.step 1 (fun k => F19c21_eq k _ _ _ _ _ _ _ _ _ _) ?_
  unfold restZ noText
  cases b with
  | false => simp only [Bool.false_eq_true, if_false, Bool.false_and]; exact Ev.now _
  | true =>
    cases y with
    | true => simp only [Bool.not_true, Bool.false_eq_true, if_false, if_true, Bool.true_and, Bool.false_and]; exact Ev.now _
    | false =>
      simp only [Bool.not_false, if_true, Bool.true_and]
      refine Ev.bind (zero_ev n l s) (Ev.congr (h := fun _ => some ((decZ n l s && ((day == 0) && (((mo == 0) && (da == 0)) && (t.toList == (⟨#[]⟩ : ByteArray).toList))), ()), (((), (), (), (), (), (), (), (), (), ()), ()))) (fun _ => ?_) (Ev.now _))
      cases decZ n l s <;> cases h1 : (day == 0) <;> cases h2 : (mo == 0) <;> cases h3 : (da == 0) <;> simp
theorem okC17 (hsz : t.size ≤ 9000000000000000000) (t3 : ByteArray) : ∀ (m i : Nat) (b : Bool), i + m = t.size → Ev (fun k => F19c17 k k0 y n l s day mo da t k0 y n l s day mo da t3 b (t.size : Int) (i : Int)) (((b && (List.range' i m).all fun i => within (bAt t i) 32 126) && restZ y n l s day mo da t3, ()), (((), (), (), (), (), (), (), (), (), ()), ())) := by
  intro m
  induction m with
  | zero =>
    intro i b hi
    refine Ev.step 1 (fun k => F19c17_eq k _ _ _ _ _ _ _ _ _ _ _ _ _ _ _ _ _ _ _ _ _) ?_
    simp only [lt_false (show t.size ≤ i by omega), Bool.false_eq_true, if_false]
    have := okC21 k0 y n l s day mo da t3 b
    simpa using this
  | succ m ih =>
    intro i b hi
    obtain ⟨u, hu, hb⟩ := byteAt (s := t) (i := i) (by omega)
    refine Ev.step 1 (fun k => F19c17_eq k _ _ _ _ _ _ _ _ _ _ _ _ _ _ _ _ _ _ _ _ _) ?_
    rw [List.range'_succ, List.all_cons]
    cases b with
    | false =>
      have := ih (i + 1) false (by omega)
      rw [Bool.false_and] at this ⊢
      simp only [lt_true (show i < t.size by omega), if_true, Bool.false_eq_true, if_false, wrap_succ (show i < 9223372036854775807 by omega)]
      exact this
    | true =>
      have := ih (i + 1) (within (bAt t i) 32 126) (by omega)
      have hlt : u.toNat < 256 := UInt8.toNat_lt u
      simp only [lt_true (show i < t.size by omega), ge0, if_true, Int.toNat_natCast, hu, Option.bind_some, wrap64 (show -9223372036854775808 ≤ ((u.toNat : Nat) : Int) by omega) (by omega), wrap_succ (show i < 9223372036854775807 by omega), Bool.true_and]
      refine Ev.bind (in_ev _ _ _) ?_
      rw [← hb]
      exact this
theorem ValueOk_ev (hl : l.length ≤ 1048576) (ht : t.size ≤ 1048576) : Ev (fun k => F19 k k0 y n l s day mo da t) ((vOk k0 y n l s day mo da t, ()), (((), (), (), (), (), (), (), (), (), ()), ())) := by
  refine Ev.step 2 (fun k => F19_eq k _ _ _ _ _ _ _ _ _) ?_
  by_cases h0 : k0 = 0
  · subst h0
    have := okC21 0 y n l s day mo da t true
    have e : vOk 0 y n l s day mo da t = (true && restZ y n l s day mo da t) := by simp [vOk, within, bareOk, bodyOk, restZ]
    rw [e]
    simp only [beq_self_eq_true, if_true]
    exact this
  by_cases h1 : k0 = 1
  · subst h1
    have := okC21 1 false n l s day mo da t true
    have e : vOk 1 y n l s day mo da t = (true && restZ false n l s day mo da t) := by simp [vOk, within, bareOk, bodyOk, restZ]
    rw [e]
    simp only [show ((1 : Int) == 0) = false from rfl, beq_self_eq_true, Bool.false_eq_true, if_false, if_true]
    exact this
  by_cases h2 : k0 = 2
  · subst h2
    have := okC21 2 y false [] 0 day mo da t (decOk n l s)
    have e : vOk 2 y n l s day mo da t = (decOk n l s && restZ y false [] 0 day mo da t) := by
      simp [vOk, within, bareOk, bodyOk, restZ, decZ, Bool.and_comm, Bool.and_assoc]
    rw [e]
    simp only [show ((2 : Int) == 0) = false from rfl, show ((2 : Int) == 1) = false from rfl, beq_self_eq_true, Bool.false_eq_true, if_false, if_true]
    exact Ev.bind (DecOk_ev n l s hl) this
  by_cases h3 : k0 = 3
  · subst h3
    have := okC21 3 y n l s 0 mo da t (dayOk day)
    have e : vOk 3 y n l s day mo da t = (dayOk day && restZ y n l s 0 mo da t) := by
      simp [vOk, within, bareOk, bodyOk, restZ, Bool.and_comm, Bool.and_assoc, Bool.and_left_comm]
    rw [e]
    simp only [show ((3 : Int) == 0) = false from rfl, show ((3 : Int) == 1) = false from rfl, show ((3 : Int) == 2) = false from rfl, beq_self_eq_true, Bool.false_eq_true, if_false, if_true]
    exact Ev.bind (isDay_ev day) this
  by_cases h4 : k0 = 4
  · subst h4
    have := okC21 4 y n l s day 0 0 t (spanOk mo da)
    have e : vOk 4 y n l s day mo da t = (spanOk mo da && restZ y n l s day 0 0 t) := by
      simp [vOk, within, bareOk, bodyOk, restZ, Bool.and_comm, Bool.and_assoc, Bool.and_left_comm]
    rw [e]
    simp only [show ((4 : Int) == 0) = false from rfl, show ((4 : Int) == 1) = false from rfl, show ((4 : Int) == 2) = false from rfl, show ((4 : Int) == 3) = false from rfl, beq_self_eq_true, Bool.false_eq_true, if_false, if_true]
    exact Ev.bind (SpanOk_ev mo da) this
  by_cases h5 : k0 = 5
  · subst h5
    have := okC17 5 y n l s day mo da t (by omega) ⟨#[]⟩ t.size 0 (decide ((t.size : Int) ≤ 12)) (by omega)
    rw [← List.range_eq_range'] at this
    have e : vOk 5 y n l s day mo da t = ((decide ((t.size : Int) ≤ 12) && (List.range t.size).all fun i => within (bAt t i) 32 126) && restZ y n l s day mo da ⟨#[]⟩) := by
      have hn : noText ⟨#[]⟩ = true := by unfold noText; exact beq_self_eq_true _
      simp only [vOk, bareOk, bodyOk, restZ, hn, textOk, figOk]
      simp [within, Bool.and_comm, Bool.and_assoc, Bool.and_left_comm]
    rw [e]
    simp only [show ((5 : Int) == 0) = false from rfl, show ((5 : Int) == 1) = false from rfl, show ((5 : Int) == 2) = false from rfl, show ((5 : Int) == 3) = false from rfl, show ((5 : Int) == 4) = false from rfl, beq_self_eq_true, Bool.false_eq_true, if_false, if_true]
    exact this
  · have := okC21 k0 y n l s day mo da t false
    have e : vOk k0 y n l s day mo da t = (false && restZ y n l s day mo da t) := by
      have : within k0 0 5 = false := by unfold within; simp; omega
      simp [vOk, this]
    rw [e]
    simp only [beq_eq_false_iff_ne.2 h0, beq_eq_false_iff_ne.2 h1, beq_eq_false_iff_ne.2 h2, beq_eq_false_iff_ne.2 h3, beq_eq_false_iff_ne.2 h4, beq_eq_false_iff_ne.2 h5, Bool.false_eq_true, if_false]
    exact this
theorem bare_ev : Ev (fun k => F42 k k0 y n l s day mo da t) ((bareOk k0 y n l s day mo da t, ()), (((), (), (), (), (), (), (), (), (), ()), ())) := by
  refine Ev.step 2 (fun k => F42_eq k _ _ _ _ _ _ _ _ _) ?_
  have hz := l4Zero_ev n l s
  unfold bareOk noText
  have fin : ∀ {g : Nat → Option ((Bool × Unit) × ((Unit × Unit × Unit × Unit × Unit × Unit × Unit × Unit × Unit × Unit) × Unit))} {v}, (∀ k, g k = some v) → Ev g v := fun h => Ev.congr h (Ev.now _)
  by_cases h1 : k0 = 1
  · subst h1
    simp only [bne_self_eq_false, Bool.false_eq_true, if_false, show ((1 : Int) != 2) = true from rfl, show ((1 : Int) != 4) = true from rfl, if_true, show ((1 : Int) == 3) = false from rfl, show ((1 : Int) == 5) = false from rfl]
    refine Ev.bind hz (fin fun _ => ?_)
    cases decZ n l s <;> by_cases g1 : mo = 0 <;> by_cases g2 : da = 0 <;> by_cases g3 : day = 0 <;> simp [g1, g2, g3]
  by_cases h2 : k0 = 2
  · subst h2
    simp only [bne_self_eq_false, Bool.false_eq_true, if_false, show ((2 : Int) != 1) = true from rfl, show ((2 : Int) != 4) = true from rfl, if_true, show ((2 : Int) == 3) = false from rfl, show ((2 : Int) == 5) = false from rfl]
    refine fin fun _ => ?_
    cases y <;> by_cases g1 : mo = 0 <;> by_cases g2 : da = 0 <;> by_cases g3 : day = 0 <;> simp [g1, g2, g3]
  have e1 : (k0 != 1) = true := bne_iff_ne.2 h1
  have e2 : (k0 != 2) = true := bne_iff_ne.2 h2
  have f1 : (k0 == 1) = false := beq_eq_false_iff_ne.2 h1
  have f2 : (k0 == 2) = false := beq_eq_false_iff_ne.2 h2
  simp only [e1, e2, f1, f2, if_true]
  cases y with
  | true =>
    simp only [if_true]
    refine fin fun _ => ?_
    simp
  | false =>
    simp only [Bool.false_eq_true, if_false]
    refine Ev.bind hz (fin fun _ => ?_)
    by_cases h4 : k0 = 4
    · subst h4
      cases decZ n l s <;> by_cases g1 : mo = 0 <;> by_cases g2 : da = 0 <;> by_cases g3 : day = 0 <;> simp [g1, g2, g3]
    · by_cases h3 : k0 = 3
      · subst h3
        cases decZ n l s <;> by_cases g1 : mo = 0 <;> by_cases g2 : da = 0 <;> by_cases g3 : day = 0 <;> simp [g1, g2, g3]
      · by_cases h5 : k0 = 5
        · subst h5
          cases decZ n l s <;> by_cases g1 : mo = 0 <;> by_cases g2 : da = 0 <;> by_cases g3 : day = 0 <;> simp [g1, g2, g3]
        · cases decZ n l s <;> by_cases g1 : mo = 0 <;> by_cases g2 : da = 0 <;> by_cases g3 : day = 0 <;> simp [g1, g2, g3, h3, h4, h5]
theorem l4Ok_ev (hl : l.length ≤ 1048576) (ht : t.size ≤ 1048576) : Ev (fun k => F27 k k0 y n l s day mo da t) ((vOk k0 y n l s day mo da t, ()), (((), (), (), (), (), (), (), (), (), ()), ())) := by
  refine Ev.step 2 (fun k => F27_eq k _ _ _ _ _ _ _ _ _) (Ev.bind (l1In_ev k0 0 5) ?_)
  unfold vOk
  cases hw : within k0 0 5 with
  | false => simp only [Bool.not_false, if_true, Bool.false_and]; exact Ev.now _
  | true =>
    simp only [Bool.not_true, Bool.false_eq_true, if_false, Bool.true_and]
    refine Ev.bind (bare_ev k0 y n l s day mo da t) ?_
    cases hb : bareOk k0 y n l s day mo da t with
    | false => simp only [Bool.not_false, if_true, Bool.false_and]; exact Ev.now _
    | true =>
      simp only [Bool.not_true, Bool.false_eq_true, if_false, Bool.true_and]
      unfold bodyOk
      by_cases h2 : k0 = 2
      · simp only [h2, beq_self_eq_true, if_true]
        exact Ev.bind (l2Ok_ev n l s hl) (Ev.now _)
      by_cases h3 : k0 = 3
      · simp only [h3, show ((3 : Int) == 2) = false from rfl, show ¬ ((3 : Int) = 2) by decide, beq_self_eq_true, Bool.false_eq_true, if_false, if_true]
        exact Ev.bind (l3Is_ev day) (Ev.now _)
      by_cases h4 : k0 = 4
      · simp only [h4, show ((4 : Int) == 2) = false from rfl, show ((4 : Int) == 3) = false from rfl, show ¬ ((4 : Int) = 2) by decide, show ¬ ((4 : Int) = 3) by decide, beq_self_eq_true, Bool.false_eq_true, if_false, if_true]
        exact Ev.bind (l3SpanOk_ev mo da) (Ev.now _)
      simp only [beq_eq_false_iff_ne.2 h2, beq_eq_false_iff_ne.2 h3, beq_eq_false_iff_ne.2 h4, h2, h3, h4, Bool.false_eq_true, if_false]
      by_cases h5 : k0 = 5
      · simp only [h5, if_true]
        exact Ev.bind (l4Text_ev t (by omega)) (Ev.now _)
      · have hnt : noText t = true := by
          unfold bareOk at hb
          rw [beq_eq_false_iff_ne.2 h5] at hb
          simp only [Bool.and_eq_true, Bool.false_or] at hb
          exact hb.2.2.2.2
        have htx := l4Text_ev t (by omega)
        rw [noText_ok hnt] at htx
        simp only [h5, if_false]
        exact Ev.bind htx (Ev.now _)
end
end Go.Proofs.YthbibdpbfgoghaaGreatDoor.R
end
